/- Parts of a proof, in one text: what it needs of K12, K13, K14, K15, Mfar0, N1, Mchk0. -/
import Derived.Test.YtnhgdngbdoifnaaJCleanerKeeps6
import Derived.Test.YtnhgdngbdoifnaaProg
namespace Go.Proofs.Ytnhgdngbdoifnaa.M
open Go.Proofs.Ytnhgdngbdoifnaa.F Go.RowKit
set_option linter.unusedVariables false
set_option linter.unusedSimpArgs false
set_option maxRecDepth 100000
set_option maxHeartbeats 2000000
attribute [local irreducible] Res.cells Res.row Res.map Res.any World.cell? World.frozen? Instr.fieldAt Instr.loadAt Instr.storeAt Instr.indexAt Instr.lookup Instr.mapUpdate Instr.box Instr.build Instr.buildSlice Instr.extract Instr.alloc Instr.field Instr.index Instr.sliceAt Instr.makeSlice Instr.makeMap Instr.makeFunc binS Op.unary Sem.run
def cut50 (s : ByteArray) : ByteArray := if 50 < s.size then s.extract 0 50 else s
def cutR (r : Rc) : Rc := ⟨r.key, r.time, cut50 r.text⟩
section
variable {w0 w : World} {F : List Nat} {L : List Res} {l : List Rc} {A : Option Addr} {c : Nat}
theorem some16_main (hm : l.length ≤ 150) (hE : Bes w0 F L 3 A l.length (l.flatMap encR)) (hS : St w0 F w L) : m12_2 (fun v w' => ∃ A' c', v = .slice A' (l.map cutR).length c' ∧ St w0 F w' (rRow A' c' (l.map cutR) :: L)) (.slice A l.length c) w := by
  unfold m12_2 m12_3 m12_6
  refine loop_in (fun u w' => ∃ (i : Nat) (A' : Option Addr) (c' : Nat), u = (.slice A' ((l.take i).map cutR).length c', .int .i64 (i : Int)) ∧ i ≤ l.length ∧ St w0 F w' (rRow A' c' ((l.take i).map cutR) :: L)) (fun u _ => l.length - (intOf u.2).toNat) ⟨0, none, 0, rfl, by omega, hS.row_nil 46 3⟩ ?_
  clear hS
  rintro u w ⟨i, A', c', rfl, hi, hS⟩
  simp only
  have hlen : ((l.take i).map cutR).length = i := by rw [List.length_map, List.length_take]; omega
  unfold m12_7
  refine builtin_ok (len24 _) ?_
  refine valP_ok (lss_ok _ _ _ _ _ _ _) ?_
  unfold m12_13
  refine cond_split (fun h => ?_) (fun h => ?_)
  · have hil : i < l.length := by omega
    obtain ⟨gb, o, rfl⟩ := (hE.rd1 hS).some_ (by omega) (by omega)
    have p := r_at (hE.rd1 hS) hil
    have hnx : (l.take (i + 1)).map cutR = (l.take i).map cutR ++ [cutR l[i]] := by
      rw [List.take_succ_eq_append_getElem hil, List.map_append]
      rfl
    unfold m12_8
    refine valP_ok (ix24 hil _) ?_
    refine valP_ok (ld46 p.1 p.2.1 p.2.2) ?_
    refine new_ok (al46 _) hS ?_
    intro b5 w hS
    first | refine ss46 0 hS rfl rfl rfl rfl ?_ | refine ss46 1 hS rfl rfl rfl rfl ?_ | refine ss46 2 hS rfl rfl rfl rfl ?_ | refine ss46 3 hS rfl rfl rfl rfl ?_ | refine ss46 4 hS rfl rfl rfl rfl ?_ | refine ss46 5 hS rfl rfl rfl rfl ?_ | refine ss46 6 hS rfl rfl rfl rfl ?_ | refine ss46 7 hS rfl rfl rfl rfl ?_
    intro w hS
    simp only [List.set_cons_zero, List.set_cons_succ] at hS
    have leaf : ∀ (K1 : Value × Value → World → Prop), (∀ w' A' c', St w0 F w' (rRow A' c' ((l.take (i + 1)).map cutR) :: L) → K1 (.slice A' ((l.take (i + 1)).map cutR).length c', .int .i64 ((i + 1 : Nat) : Int)) w') → ∀ w, St w0 F w (Res.cells b5 46 (encR (cutR l[i])) :: rRow A' c' ((l.take i).map cutR) :: L) → m12_11 (fun v w' => ∃ A' c', v = .slice A' (l.map cutR).length c' ∧ St w0 F w' (rRow A' c' (l.map cutR) :: L)) K1 (.slice (some ⟨gb, o, none⟩) l.length c) (.slice A' ((l.take i).map cutR).length c') (.int .i64 (i : Int)) (.pointer (some ⟨b5, 0, none⟩)) w := fun K1 hK w hS => by
      unfold m12_11
      first | refine ls46 0 hS rfl ?_ | refine ls46 1 hS rfl ?_ | refine ls46 2 hS rfl ?_ | refine ls46 3 hS rfl ?_ | refine ls46 4 hS rfl ?_ | refine ls46 5 hS rfl ?_ | refine ls46 6 hS rfl ?_ | refine ls46 7 hS rfl ?_ | refine valP_ok (ld46 (by assumption) (by assumption) (by assumption)) ?_
      refine newslice_ok (bs24_1 _) hS ?_
      intro b31 w hS
      refine append_one1 (enc := encR) 1 (cutR l[i]) sl24 encR_len encR_one (by unfold maxLen; omega) (by omega) hS rfl ?_
      intro A' c' w' hS
      simp only [List.set_cons_zero, List.set_cons_succ] at hS
      have h1 := hK w' A' c' (by rw [hnx]; exact hS.tail)
      rw [hnx] at h1
      unfold m12_9
      refine valP_ok (add_ok _ _ _ (by omega) (by omega) _) ?_
      exact h1
    unfold m12_10
    first | refine valP_ok (fa46_2 _ _) ?_ | refine valP_ok (fao46_2 _ _ _) ?_
    first | refine valP_ok (ld9 (hS.cell 0 rfl rfl)) ?_ | refine valP_ok (ld9 (hS.cell 1 rfl rfl)) ?_ | refine valP_ok (ld9 (hS.cell 2 rfl rfl)) ?_ | refine valP_ok (ld9 (hS.cell 3 rfl rfl)) ?_ | refine valP_ok (ld9 (hS.cell 4 rfl rfl)) ?_ | refine valP_ok (ld9 (hS.cell 5 rfl rfl)) ?_ | refine valP_ok (ld9 (hS.cell 6 rfl rfl)) ?_ | refine valP_ok (ld9 (hS.cell 7 rfl rfl)) ?_ | refine valP_ok (ld9 (by assumption)) ?_
    refine builtin_ok (len9 _) ?_
    refine valP_ok (gtr_ok _ _ _ _ _ _ _) ?_
    unfold m12_12
    refine cond_split (fun h1 => ?_) (fun h1 => ?_)
    · have e : cutR l[i] = ⟨l[i].key, l[i].time, l[i].text.extract 0 50⟩ := by
        unfold cutR cut50
        rw [if_pos (by omega)]
      first | refine valP_ok (fa46_2 _ _) ?_ | refine valP_ok (fao46_2 _ _ _) ?_
      first | refine valP_ok (ld9 (hS.cell 0 rfl rfl)) ?_ | refine valP_ok (ld9 (hS.cell 1 rfl rfl)) ?_ | refine valP_ok (ld9 (hS.cell 2 rfl rfl)) ?_ | refine valP_ok (ld9 (hS.cell 3 rfl rfl)) ?_ | refine valP_ok (ld9 (hS.cell 4 rfl rfl)) ?_ | refine valP_ok (ld9 (hS.cell 5 rfl rfl)) ?_ | refine valP_ok (ld9 (hS.cell 6 rfl rfl)) ?_ | refine valP_ok (ld9 (hS.cell 7 rfl rfl)) ?_ | refine valP_ok (ld9 (by assumption)) ?_
      refine valP_ok (sto (k := 50) _ (by omega)) ?_
      first | refine valP_ok (fa46_2 _ _) ?_ | refine valP_ok (fao46_2 _ _ _) ?_
      first | refine store_at 0 st9 hS rfl (by simp) rfl ?_ | refine store_at 1 st9 hS rfl (by simp) rfl ?_ | refine store_at 2 st9 hS rfl (by simp) rfl ?_ | refine store_at 3 st9 hS rfl (by simp) rfl ?_ | refine store_at 4 st9 hS rfl (by simp) rfl ?_ | refine store_at 5 st9 hS rfl (by simp) rfl ?_ | refine store_at 6 st9 hS rfl (by simp) rfl ?_ | refine store_at 7 st9 hS rfl (by simp) rfl ?_
      intro w hS
      simp only [List.set_cons_zero, List.set_cons_succ] at hS
      exact leaf _ (fun w' A' c' hS => ⟨⟨i + 1, A', c', rfl, by omega, hS⟩, by simp [intOf]; omega⟩) _ (by rw [e]; exact hS)
    · have e : cutR l[i] = l[i] := by
        unfold cutR cut50
        rw [if_neg (by omega)]
      exact leaf _ (fun w' A' c' hS => ⟨⟨i + 1, A', c', rfl, by omega, hS⟩, by simp [intOf]; omega⟩) _ (by rw [e]; exact hS)
  · obtain rfl : i = l.length := by omega
    rw [List.take_length] at hS ⊢
    unfold m12_4 m12_5
    exact ⟨_, _, rfl, hS⟩
theorem some16_ret (hc : l.length ≤ c) (hE : Bes w0 F L 3 A (l.take 150).length ((l.take 150).flatMap encR)) (hS : St w0 F w L) : Ret Try.prog 12 #[.slice A l.length c] w fun v w' => ∃ A' c', v = .slice A' ((l.take 150).map cutR).length c' ∧ St w0 F w' (rRow A' c' ((l.take 150).map cutR) :: L) := by
  have hl : (l.take 150).length = min 150 l.length := List.length_take
  refine s12 _ ?_
  unfold m12 m12_0
  unfold m12_1
  refine builtin_ok (len24 _) ?_
  refine valP_ok (gtr_ok _ _ _ _ _ _ _) ?_
  unfold m12_14
  refine cond_split (fun h => ?_) (fun h => ?_)
  · refine valP_ok (sh24 (k := 150) (by omega) _) ?_
    have h1 := some16_main (c := c) (by omega) hE hS
    rw [show (l.take 150).length = 150 by omega] at h1
    exact h1
  · rw [List.take_of_length_le (by omega)] at hE ⊢
    exact some16_main (c := c) (by omega) hE hS
end
inductive Logs (g : Gr) : List Rc → Sg → Prop
  | zero : Logs g [] ⟨-1, 0, 0, 0, []⟩
  | step {rs : List Rc} {s t : Sg} : Logs g rs s → MayS g s → SgOk t → t.L.length ≤ 64 → Logs g (rs ++ diffS s t) t
def RcI (r : Rc) : Prop := I64 r.key ∧ I64 r.time
theorem diffS_ok {s t : Sg} (hs : SgOk s) (ht : SgOk t) : ∀ r ∈ diffS s t, RcI r := fun r hr => by
  unfold diffS at hr
  rcases List.mem_append.1 hr with h | h
  · split at h
    · obtain rfl := List.mem_singleton.1 h
      exact ⟨by show I64 0; omega, by show I64 0; omega⟩
    · cases h
  · rcases diff_mem _ _ r h with ⟨c, hc, rfl⟩ | ⟨c, hc, rfl⟩
    · exact ⟨(hs.2 c hc).1, (hs.2 c hc).2.1⟩
    · exact ⟨(ht.2 c hc).1, (ht.2 c hc).2.1⟩
section
variable {w0 w : World} {F : List Nat} {L : List Res}
def LogR (g : Gr) (w0 : World) (F : List Nat) (L : List Res) (v : Value) (w : World) : Prop :=
  ∃ (L' : List Res) (l : List Gt) (s : Sg) (A As : Option Addr) (c cs : Nat) (t : Bool), v = .tuple #[.slice A l.length c, sgv s As cs, .bool t] ∧ St w0 F w L' ∧
    (t = true → BG w0 F L' A l ∧ Sl w0 F L' As cs s.L ∧ MayS g s ∧ SgOk s ∧ ∃ rs, l = offs 0 rs ∧ Logs g rs s ∧ rs.length ≤ 20000 ∧ (∀ r ∈ rs, RcI r) ∧ ∀ r ∈ L, r ∈ L')
section
variable {g : Gr}
abbrev zc : List Value := [.int .i64 0, .int .i64 0, .int .i64 0, .int .i64 0, .slice none 0 0]
abbrev LgL (L : List Res) (g : Gr) (s : Sg) (As : Option Addr) (cs b3 b7 b9 : Nat) (A2 : Option Addr) (c2 : Nat) (rs : List Rc) : List Res := grow A2 c2 (offs 0 rs) :: Res.cells b9 28 (encS s As cs) :: Res.cells b7 28 zc :: Res.cells b3 23 (encGr g) :: L
structure LgI (g : Gr) (w0 : World) (F : List Nat) (L Lr : List Res) (b3 b7 b9 : Nat) (l : List Rc) (A' : Option Addr) (c' : Nat) (s : Sg) (As : Option Addr) (cs : Nat) (A2 : Option Addr) (c2 : Nat) (rs : List Rc) (R : List Res) (w : World) : Prop where
  len : l.length ≤ 150
  cap : l.length ≤ c'
  rd : Bes w0 F Lr 3 A' l.length (l.flatMap encR)
  logs : Logs g rs s
  ok : SgOk s
  l64 : s.L.length ≤ 64
  bnd : rs.length + 129 * l.length ≤ 19350
  rng : ∀ r ∈ rs, RcI r
  sl : Sl w0 F (R ++ Lr) As cs s.L
  st : St w0 F w (LgL (R ++ Lr) g s As cs b3 b7 b9 A2 c2 rs)
  mem : ∀ r ∈ L, r ∈ Lr
variable {Lr R : List Res} {b3 b7 b9 b12 : Nat} {l1 l2 : List Rc} {A' : Option Addr} {c' : Nat} {s t : Sg} {As At : Option Addr} {cs ct : Nat} {A2 : Option Addr} {c2 : Nat} {rs : List Rc}
theorem log_12 {K1 : Value × Value → World → Prop} {m : Int} (hM : ∀ r ∈ L, r ∈ Lr) (h1 : 1 ≤ l1.length) (hlen : (l1 ++ l2).length ≤ 150) (hcap : (l1 ++ l2).length ≤ c') (hrd : Bes w0 F Lr 3 A' (l1 ++ l2).length ((l1 ++ l2).flatMap encR)) (hlg : Logs g rs s) (hm : MayS g s) (hs : SgOk s) (ht : SgOk t) (h64 : s.L.length ≤ 64 ∧ t.L.length ≤ 64)
    (hb : rs.length + 129 * (l1 ++ l2).length ≤ 19350) (hrng : ∀ r ∈ rs, RcI r) (hE1 : Sl w0 F (R ++ Lr) As cs s.L) (hE2 : Sl w0 F (R ++ Lr) At ct t.L)
    (hK : ∀ (A' : Option Addr) (c' : Nat) (A2 : Option Addr) (c2 : Nat) (rs2 : List Rc) w, LgI g w0 F L Lr b3 b7 b9 l2 A' c' t At ct A2 c2 rs2 R w → K1 (.slice A' l2.length c', .slice A2 (offs 0 rs2).length c2) w)
    (hS : St w0 F w (Res.cells b12 28 (encS t At ct) :: LgL (R ++ Lr) g s As cs b3 b7 b9 A2 c2 rs)) :
    m5_12 (LogR g w0 F L) K1 (.slice A' (l1 ++ l2).length c') (.int .i64 m) (.pointer (some ⟨b3, 0, none⟩)) (.pointer (some ⟨b7, 0, none⟩)) (.pointer (some ⟨b9, 0, none⟩)) (.slice A2 (offs 0 rs).length c2) (.int .i64 (l1.length : Int)) (.pointer (some ⟨b12, 0, none⟩)) w := by
  have ll : (l1 ++ l2).length = l1.length + l2.length := List.length_append
  have hdo := diffS_ok hs ht
  have up : ∀ {A : Option Addr} {c : Nat} {l : List Ce}, Sl w0 F (R ++ Lr) A c l → Sl w0 F (Res.cells b12 28 (encS t At ct) :: LgL (R ++ Lr) g s As cs b3 b7 b9 A2 c2 rs) A c l := fun h => ((((h.cons _).cons _).cons _).cons _).cons _
  unfold m5_12
  refine valP_ok (ld28 (hS.cell 2 rfl rfl) (hS.cell 2 rfl rfl) (hS.cell 2 rfl rfl) (hS.cell 2 rfl rfl) (hS.cell 2 rfl rfl)) ?_
  refine valP_ok (ld28 (hS.cell 0 rfl rfl) (hS.cell 0 rfl rfl) (hS.cell 0 rfl rfl) (hS.cell 0 rfl rfl) (hS.cell 0 rfl rfl)) ?_
  refine callR (by kernel_rfl) (diff_ret h64 hs ht (up hE1) (up hE2) hS) ?_
  clear hS
  rintro _ w ⟨Ad, cd, ds, rfl, hds, hdl, hS⟩
  rw [← hds] at hdo
  unfold m5_13 m5_16
  refine loop_in (fun u w' => ∃ (i : Nat) (A : Option Addr) (c : Nat), u = (.slice A (offs 0 (rs ++ ds.take i)).length c, .int .i64 (i : Int)) ∧ i ≤ ds.length ∧ St w0 F w' (rRow Ad cd ds :: Res.cells b12 28 (encS t At ct) :: LgL (R ++ Lr) g s As cs b3 b7 b9 A c (rs ++ ds.take i))) (fun u _ => ds.length - (intOf u.2).toNat) ⟨0, A2, c2, by rw [List.take_zero, List.append_nil]; rfl, by omega, by rw [List.take_zero, List.append_nil]; exact hS⟩ ?_
  clear hS
  rintro u w ⟨i, A, c, rfl, hi, hS⟩
  simp only
  have hol : (offs 0 (rs ++ ds.take i)).length = rs.length + i := by rw [offs_len, List.length_append, List.length_take]; omega
  unfold m5_17
  refine builtin_ok (len24 _) ?_
  refine valP_ok (lss_ok _ _ _ _ _ _ _) ?_
  unfold m5_20
  refine cond_split (fun h => ?_) (fun h => ?_)
  · have hil : i < ds.length := by omega
    obtain ⟨gb, rfl⟩ := hS.row_ptr 0 rfl (by omega)
    have p := r_at (o := 0) (hS.row_rd 0 rfl) hil
    have hnx : offs 0 (rs ++ ds.take (i + 1)) = offs 0 (rs ++ ds.take i) ++ [⟨((offs 0 (rs ++ ds.take i)).length : Int), ds[i]⟩] := by
      rw [List.take_succ_eq_append_getElem hil, ← List.append_assoc, offs_snoc, offs_len, Int.zero_add]
    unfold m5_18
    refine builtin_ok (len25 _) ?_
    refine valP_ok (ix24 hil _) ?_
    refine valP_ok (ld46 p.1 p.2.1 p.2.2) ?_
    refine valP_ok (bd48_0_1 rfl _) ?_
    refine newslice_ok (bs25_1 _) hS ?_
    intro b62 w hS
    refine append_one1 (enc := encG) 2 ⟨((offs 0 (rs ++ ds.take i)).length : Int), ds[i]⟩ sl25 encG_len encG_one (by unfold maxLen; omega) (by omega) hS rfl ?_
    intro A3 c3 w hS
    simp only [List.set_cons_zero, List.set_cons_succ] at hS
    rw [← hnx] at hS ⊢
    unfold m5_19
    refine valP_ok (add_ok _ _ _ (by omega) (by omega) _) ?_
    exact ⟨⟨i + 1, A3, c3, rfl, by omega, hS⟩, by simp [intOf]; omega⟩
  · obtain rfl : i = ds.length := by omega
    rw [List.take_length] at hS ⊢
    unfold m5_14
    refine valP_ok (ld28 (hS.cell 1 rfl rfl) (hS.cell 1 rfl rfl) (hS.cell 1 rfl rfl) (hS.cell 1 rfl rfl) (hS.cell 1 rfl rfl)) ?_
    first | refine ss28 0 hS rfl rfl rfl rfl rfl rfl ?_ | refine ss28 1 hS rfl rfl rfl rfl rfl rfl ?_ | refine ss28 2 hS rfl rfl rfl rfl rfl rfl ?_ | refine ss28 3 hS rfl rfl rfl rfl rfl rfl ?_ | refine ss28 4 hS rfl rfl rfl rfl rfl rfl ?_ | refine ss28 5 hS rfl rfl rfl rfl rfl rfl ?_ | refine ss28 6 hS rfl rfl rfl rfl rfl rfl ?_ | refine ss28 7 hS rfl rfl rfl rfl rfl rfl ?_
    intro w hS
    simp only [List.set_cons_zero, List.set_cons_succ] at hS
    unfold m5_15
    refine valP_ok (so24 (by omega) (by omega) _) ?_
    rw [show (l1 ++ l2).length - l1.length = l2.length by omega]
    refine hK _ _ A c (rs ++ ds) w ⟨by omega, by omega, fun w' L' hS' hL' => ?_, ?_, ht, h64.2, by rw [List.length_append]; omega, fun r hr => ?_, hE2, hS.tail.tail, hM⟩
    · have hd := (hrd w' L' hS' hL').dropS encR_len (k := l1.length) (by omega) hcap
      rw [List.drop_left] at hd
      exact hd
    · rw [hds]
      exact .step hlg hm ht h64.2
    · rcases List.mem_append.1 hr with h | h
      · exact hrng r h
      · exact hdo r h
end
end
section
variable {w0 w : World} {F : List Nat} {L : List Res}
section
variable {g : Gr} {Lr R : List Res} {b3 b7 b9 b12 : Nat} {l : List Rc} {A' : Option Addr} {c' : Nat} {s t : Sg} {As At : Option Addr} {cs ct : Nat} {A2 : Option Addr} {c2 : Nat} {rs : List Rc}
theorem log_6 (hI : LgI g w0 F L Lr b3 b7 b9 l A' c' s As cs A2 c2 rs R w) : m5_6 (LogR g w0 F L) (.pointer (some ⟨b3, 0, none⟩)) (.pointer (some ⟨b7, 0, none⟩)) (.pointer (some ⟨b9, 0, none⟩)) (.slice A2 (offs 0 rs).length c2) w := by
  obtain ⟨-, -, -, hlg, hok, h64, hb, hrng, hE, hS, hM⟩ := hI
  have hS : St w0 F w (Res.cells b7 28 zc :: grow A2 c2 (offs 0 rs) :: Res.cells b9 28 (encS s As cs) :: Res.cells b3 23 (encGr g) :: (R ++ Lr)) := hS.pick 4 [2, 0, 1, 3] (by simp) (by decide)
  unfold m5_6
  refine drawn_ok hS ?_
  intro w hS
  refine held_Hs hS.tail ?_
  first | refine valJ_at (fun w hw => ld28 (Hs.cell 0 rfl rfl w hw) (Hs.cell 0 rfl rfl w hw) (Hs.cell 0 rfl rfl w hw) (Hs.cell 0 rfl rfl w hw) (Hs.cell 0 rfl rfl w hw)) ?_ | refine valJ_at (fun w hw => ld28 (Hs.cell 1 rfl rfl w hw) (Hs.cell 1 rfl rfl w hw) (Hs.cell 1 rfl rfl w hw) (Hs.cell 1 rfl rfl w hw) (Hs.cell 1 rfl rfl w hw)) ?_ | refine valJ_at (fun w hw => ld28 (Hs.cell 2 rfl rfl w hw) (Hs.cell 2 rfl rfl w hw) (Hs.cell 2 rfl rfl w hw) (Hs.cell 2 rfl rfl w hw) (Hs.cell 2 rfl rfl w hw)) ?_ | refine valJ_at (fun w hw => ld28 (Hs.cell 3 rfl rfl w hw) (Hs.cell 3 rfl rfl w hw) (Hs.cell 3 rfl rfl w hw) (Hs.cell 3 rfl rfl w hw) (Hs.cell 3 rfl rfl w hw)) ?_ | refine valJ_at (fun w hw => ld28 (Hs.cell 4 rfl rfl w hw) (Hs.cell 4 rfl rfl w hw) (Hs.cell 4 rfl rfl w hw) (Hs.cell 4 rfl rfl w hw) (Hs.cell 4 rfl rfl w hw)) ?_ | refine valJ_at (fun w hw => ld28 (Hs.cell 5 rfl rfl w hw) (Hs.cell 5 rfl rfl w hw) (Hs.cell 5 rfl rfl w hw) (Hs.cell 5 rfl rfl w hw) (Hs.cell 5 rfl rfl w hw)) ?_ | refine valJ_at (fun w hw => ld28 (Hs.cell 6 rfl rfl w hw) (Hs.cell 6 rfl rfl w hw) (Hs.cell 6 rfl rfl w hw) (Hs.cell 6 rfl rfl w hw) (Hs.cell 6 rfl rfl w hw)) ?_ | refine valJ_at (fun w hw => ld28 (Hs.cell 7 rfl rfl w hw) (Hs.cell 7 rfl rfl w hw) (Hs.cell 7 rfl rfl w hw) (Hs.cell 7 rfl rfl w hw) (Hs.cell 7 rfl rfl w hw)) ?_
  first | refine valJ_at (fun w hw => ld23 (Hs.cell 0 rfl rfl w hw) (Hs.cell 0 rfl rfl w hw) (Hs.cell 0 rfl rfl w hw)) ?_ | refine valJ_at (fun w hw => ld23 (Hs.cell 1 rfl rfl w hw) (Hs.cell 1 rfl rfl w hw) (Hs.cell 1 rfl rfl w hw)) ?_ | refine valJ_at (fun w hw => ld23 (Hs.cell 2 rfl rfl w hw) (Hs.cell 2 rfl rfl w hw) (Hs.cell 2 rfl rfl w hw)) ?_ | refine valJ_at (fun w hw => ld23 (Hs.cell 3 rfl rfl w hw) (Hs.cell 3 rfl rfl w hw) (Hs.cell 3 rfl rfl w hw)) ?_ | refine valJ_at (fun w hw => ld23 (Hs.cell 4 rfl rfl w hw) (Hs.cell 4 rfl rfl w hw) (Hs.cell 4 rfl rfl w hw)) ?_ | refine valJ_at (fun w hw => ld23 (Hs.cell 5 rfl rfl w hw) (Hs.cell 5 rfl rfl w hw) (Hs.cell 5 rfl rfl w hw)) ?_ | refine valJ_at (fun w hw => ld23 (Hs.cell 6 rfl rfl w hw) (Hs.cell 6 rfl rfl w hw) (Hs.cell 6 rfl rfl w hw)) ?_ | refine valJ_at (fun w hw => ld23 (Hs.cell 7 rfl rfl w hw) (Hs.cell 7 rfl rfl w hw) (Hs.cell 7 rfl rfl w hw)) ?_
  first | refine valJ_at (fun w hw => ld28 (Hs.cell 0 rfl rfl w hw) (Hs.cell 0 rfl rfl w hw) (Hs.cell 0 rfl rfl w hw) (Hs.cell 0 rfl rfl w hw) (Hs.cell 0 rfl rfl w hw)) ?_ | refine valJ_at (fun w hw => ld28 (Hs.cell 1 rfl rfl w hw) (Hs.cell 1 rfl rfl w hw) (Hs.cell 1 rfl rfl w hw) (Hs.cell 1 rfl rfl w hw) (Hs.cell 1 rfl rfl w hw)) ?_ | refine valJ_at (fun w hw => ld28 (Hs.cell 2 rfl rfl w hw) (Hs.cell 2 rfl rfl w hw) (Hs.cell 2 rfl rfl w hw) (Hs.cell 2 rfl rfl w hw) (Hs.cell 2 rfl rfl w hw)) ?_ | refine valJ_at (fun w hw => ld28 (Hs.cell 3 rfl rfl w hw) (Hs.cell 3 rfl rfl w hw) (Hs.cell 3 rfl rfl w hw) (Hs.cell 3 rfl rfl w hw) (Hs.cell 3 rfl rfl w hw)) ?_ | refine valJ_at (fun w hw => ld28 (Hs.cell 4 rfl rfl w hw) (Hs.cell 4 rfl rfl w hw) (Hs.cell 4 rfl rfl w hw) (Hs.cell 4 rfl rfl w hw) (Hs.cell 4 rfl rfl w hw)) ?_ | refine valJ_at (fun w hw => ld28 (Hs.cell 5 rfl rfl w hw) (Hs.cell 5 rfl rfl w hw) (Hs.cell 5 rfl rfl w hw) (Hs.cell 5 rfl rfl w hw) (Hs.cell 5 rfl rfl w hw)) ?_ | refine valJ_at (fun w hw => ld28 (Hs.cell 6 rfl rfl w hw) (Hs.cell 6 rfl rfl w hw) (Hs.cell 6 rfl rfl w hw) (Hs.cell 6 rfl rfl w hw) (Hs.cell 6 rfl rfl w hw)) ?_ | refine valJ_at (fun w hw => ld28 (Hs.cell 7 rfl rfl w hw) (Hs.cell 7 rfl rfl w hw) (Hs.cell 7 rfl rfl w hw) (Hs.cell 7 rfl rfl w hw) (Hs.cell 7 rfl rfl w hw)) ?_
  refine callR (by kernel_rfl) (mays_ret ((((hE.cons _).cons _).cons _).cons _) hS) ?_
  rintro _ w ⟨⟨t, rfl, ht⟩, hS⟩
  refine stay_Hs hS (by first | exact fun _ h => h | exact fun _ h => .tail _ h | exact fun _ h => .tail _ (.tail _ h) | simp) ?_
  first | refine ss28 0 hS rfl rfl rfl rfl rfl rfl ?_ | refine ss28 1 hS rfl rfl rfl rfl rfl rfl ?_ | refine ss28 2 hS rfl rfl rfl rfl rfl rfl ?_ | refine ss28 3 hS rfl rfl rfl rfl rfl rfl ?_ | refine ss28 4 hS rfl rfl rfl rfl rfl rfl ?_ | refine ss28 5 hS rfl rfl rfl rfl rfl rfl ?_ | refine ss28 6 hS rfl rfl rfl rfl rfl rfl ?_ | refine ss28 7 hS rfl rfl rfl rfl rfl rfl ?_
  intro w hS
  simp only [List.set_cons_zero, List.set_cons_succ] at hS
  refine stay_Hs hS (by first | exact fun _ h => h | exact fun _ h => .tail _ h | exact fun _ h => .tail _ (.tail _ h) | simp) ?_
  unfold m5_7
  refine valS_ok (lc28 (hS.cell 0 rfl rfl) (hS.cell 0 rfl rfl) (hS.cell 0 rfl rfl) (hS.cell 0 rfl rfl) (hS.cell 0 rfl rfl)) ?_
  exact ⟨_, offs 0 rs, s, A2, As, c2, cs, t, rfl, hS, fun h => ⟨Bes.of_row (e := 48) (c := c2) 1 rfl, (((hE.cons _).cons _).cons _).cons _, ht.1 h, hok, rs, rfl, hlg, by omega, hrng, fun r hr => .tail _ (.tail _ (.tail _ (.tail _ (List.mem_append_right _ (hM r hr)))))⟩⟩
theorem log_11 {K1 : Value × Value → World → Prop} {m e : Int} {l1 l2 : List Rc} (hM : ∀ r ∈ L, r ∈ Lr) (h1 : 1 ≤ l1.length) (hlen : (l1 ++ l2).length ≤ 150) (hcap : (l1 ++ l2).length ≤ c') (hrd : Bes w0 F Lr 3 A' (l1 ++ l2).length ((l1 ++ l2).flatMap encR)) (hlg : Logs g rs s) (hm : e = 0 → MayS g s) (hs : SgOk s) (ht : SgOk t) (h64 : s.L.length ≤ 64 ∧ t.L.length ≤ 64)
    (hb : rs.length + 129 * (l1 ++ l2).length ≤ 19350) (hrng : ∀ r ∈ rs, RcI r) (hE1 : Sl w0 F (R ++ Lr) As cs s.L) (hE2 : Sl w0 F (R ++ Lr) At ct t.L)
    (hK : ∀ (A' : Option Addr) (c' : Nat) (A2 : Option Addr) (c2 : Nat) (rs2 : List Rc) w, LgI g w0 F L Lr b3 b7 b9 l2 A' c' t At ct A2 c2 rs2 R w → K1 (.slice A' l2.length c', .slice A2 (offs 0 rs2).length c2) w)
    (hS : St w0 F w (Res.cells b12 28 (encS t At ct) :: LgL (R ++ Lr) g s As cs b3 b7 b9 A2 c2 rs)) :
    m5_11 (LogR g w0 F L) K1 (.slice A' (l1 ++ l2).length c') (.int .i64 m) (.pointer (some ⟨b3, 0, none⟩)) (.pointer (some ⟨b7, 0, none⟩)) (.pointer (some ⟨b9, 0, none⟩)) (.slice A2 (offs 0 rs).length c2) (.int .i64 (l1.length : Int)) (.pointer (some ⟨b12, 0, none⟩)) (.int .i64 e) w := by
  unfold m5_11
  refine valP_ok (ne3 _ _ _ _ _) ?_
  unfold m5_21
  refine cond_split (fun he => ?_) (fun he => ?_)
  · refine drawn_ok hS ?_
    intro w hS
    refine valS_ok (ld28 (hS.cell 2 rfl rfl) (hS.cell 2 rfl rfl) (hS.cell 2 rfl rfl) (hS.cell 2 rfl rfl) (hS.cell 2 rfl rfl)) ?_
    refine ss28 3 hS rfl rfl rfl rfl rfl rfl ?_
    intro w hS
    simp only [List.set_cons_zero, List.set_cons_succ] at hS
    unfold m5_22
    refine valS_ok (lc28 (hS.cell 3 rfl rfl) (hS.cell 3 rfl rfl) (hS.cell 3 rfl rfl) (hS.cell 3 rfl rfl) (hS.cell 3 rfl rfl)) ?_
    exact ⟨_, [], s, none, As, 0, cs, false, rfl, hS, fun h => (by cases h)⟩
  · exact log_12 hM h1 hlen hcap hrd hlg (hm (Classical.not_not.1 he)) hs ht h64 hb hrng hE1 hE2 hK hS
theorem log_ret {most : Int} {l0 : List Rc} {A : Option Addr} {c : Nat} (hmo : I64 most) (hc : l0.length ≤ c) (hl : Bes w0 F L 3 A (l0.take 150).length ((l0.take 150).flatMap encR)) (hS : St w0 F w L) : Ret Try.prog 5 #[grv g, .slice A l0.length c, .int .i64 most] w (LogR g w0 F L) := by
  refine s5 _ _ _ ?_
  unfold m5
  unfold m5_0
  refine new_ok (bx23 _ _ _ _) hS ?_
  intro b3 w hS
  refine new_ok (al28 _) hS ?_
  intro b7 w hS
  unfold m5_1
  refine callR (by kernel_rfl) (some16_ret hc ((hl.cons _).cons _) hS) ?_
  rintro _ w ⟨A1, c1, rfl, hS⟩
  have hll : ((l0.take 150).map cutR).length ≤ 150 := by rw [List.length_map, List.length_take]; omega
  generalize (l0.take 150).map cutR = ls at *
  have t1 := tmod_bounds most (b := 9) (by omega)
  unfold m5_2
  refine valP_ok (rem_any _ _ _ (by omega) (by omega) (by omega) (by omega) _) ?_
  refine valP_ok (add_ok _ _ _ (by omega) (by omega) _) ?_
  refine valP_ok (rem_ok _ _ _ (by omega) (by omega) (by omega) _) ?_
  refine valP_ok (add_ok _ _ _ (by omega) (by omega) _) ?_
  generalize hmm : 1 + (most.tmod 9 + 9) % 9 = m
  have hm1 : 1 ≤ m ∧ m ≤ 9 := by omega
  clear hmm t1
  unfold m5_3
  refine valP_ok (bd28_0 rfl _) ?_
  refine new_ok (al28 _) hS ?_
  intro b9 w hS
  first | refine ss28 0 hS rfl rfl rfl rfl rfl rfl ?_ | refine ss28 1 hS rfl rfl rfl rfl rfl rfl ?_ | refine ss28 2 hS rfl rfl rfl rfl rfl rfl ?_ | refine ss28 3 hS rfl rfl rfl rfl rfl rfl ?_ | refine ss28 4 hS rfl rfl rfl rfl rfl rfl ?_ | refine ss28 5 hS rfl rfl rfl rfl rfl rfl ?_ | refine ss28 6 hS rfl rfl rfl rfl rfl rfl ?_ | refine ss28 7 hS rfl rfl rfl rfl rfl rfl ?_
  intro w hS
  simp only [List.set_cons_zero, List.set_cons_succ] at hS
  unfold m5_4 m5_5
  have hcap1 := (hS.row_max 1 rfl).1
  have hS : St w0 F w (Res.cells b9 28 (encS ⟨-1, 0, 0, 0, []⟩ none 0) :: Res.cells b7 28 zc :: Res.cells b3 23 (encGr g) :: (rRow A1 c1 ls :: L)) := hS.pick 4 [0, 2, 3, 1] (by simp) (by decide)
  have hok0 : SgOk ⟨-1, 0, 0, 0, []⟩ := ⟨⟨by show I64 (-1); omega, by show I64 0; omega, by show I64 0; omega, by show I64 0; omega⟩, fun c h => (by cases h)⟩
  refine loop_in (fun u w' => ∃ (l : List Rc) (A' : Option Addr) (c' : Nat) (s : Sg) (As : Option Addr) (cs : Nat) (A2 : Option Addr) (c2 : Nat) (rs : List Rc) (R : List Res), u = (.slice A' l.length c', .slice A2 (offs 0 rs).length c2) ∧ LgI g w0 F L (rRow A1 c1 ls :: L) b3 b7 b9 l A' c' s As cs A2 c2 rs R w') (fun u _ => match u.1 with | .slice _ n _ => n | _ => 0) ⟨ls, A1, c1, ⟨-1, 0, 0, 0, []⟩, none, 0, none, 0, [], [], rfl, ⟨hll, hcap1, Bes.of_row 0 rfl, .zero, hok0, by simp, by simp; omega, fun r h => (by cases h), Sl.nil, hS.row_nil 48 4, fun r h => .tail _ h⟩⟩ ?_
  clear hS hl
  rintro u w ⟨l, A', c', s, As, cs, A2, c2, rs, R, rfl, hI⟩
  simp only
  have hS := hI.st
  unfold m5_8
  refine builtin_ok (len24 _) ?_
  refine valP_ok (gtr_ok _ _ _ _ _ _ _) ?_
  unfold m5_23
  refine cond_split (fun h => ?_) (fun h => ?_)
  · obtain ⟨l1, l2, rfl, hn, h1⟩ : ∃ l1 l2, l = l1 ++ l2 ∧ min m (l.length : Int) = (l1.length : Int) ∧ 1 ≤ l1.length := by
      refine ⟨l.take (min m.toNat l.length), l.drop (min m.toNat l.length), (List.take_append_drop _ _).symm, ?_, ?_⟩
      · rw [List.length_take]; omega
      · rw [List.length_take]; omega
    have ll : (l1 ++ l2).length = l1.length + l2.length := List.length_append
    have hb3 := hI.len
    have hc3 := hI.cap
    unfold m5_9
    refine builtin_ok (len24 _) ?_
    refine builtin_ok (min_run _ _ _) ?_
    rw [hn]
    have hrun : Bes w0 F (R ++ (rRow A1 c1 ls :: L)) 3 A' l1.length (l1.flatMap encR) := fun w' L' hS' hL' => by
      have hd := (hI.rd w' L' hS' (fun r hr => hL' r (List.mem_append_right _ hr))).takeS encR_len l1.length
      rw [List.take_left] at hd
      exact hd
    unfold m5_10
    refine drawn_ok hS ?_
    intro w hS
    refine held_Hs hS ?_
    first | refine valJ_at (fun w hw => ld23 (Hs.cell 0 rfl rfl w hw) (Hs.cell 0 rfl rfl w hw) (Hs.cell 0 rfl rfl w hw)) ?_ | refine valJ_at (fun w hw => ld23 (Hs.cell 1 rfl rfl w hw) (Hs.cell 1 rfl rfl w hw) (Hs.cell 1 rfl rfl w hw)) ?_ | refine valJ_at (fun w hw => ld23 (Hs.cell 2 rfl rfl w hw) (Hs.cell 2 rfl rfl w hw) (Hs.cell 2 rfl rfl w hw)) ?_ | refine valJ_at (fun w hw => ld23 (Hs.cell 3 rfl rfl w hw) (Hs.cell 3 rfl rfl w hw) (Hs.cell 3 rfl rfl w hw)) ?_ | refine valJ_at (fun w hw => ld23 (Hs.cell 4 rfl rfl w hw) (Hs.cell 4 rfl rfl w hw) (Hs.cell 4 rfl rfl w hw)) ?_ | refine valJ_at (fun w hw => ld23 (Hs.cell 5 rfl rfl w hw) (Hs.cell 5 rfl rfl w hw) (Hs.cell 5 rfl rfl w hw)) ?_ | refine valJ_at (fun w hw => ld23 (Hs.cell 6 rfl rfl w hw) (Hs.cell 6 rfl rfl w hw) (Hs.cell 6 rfl rfl w hw)) ?_ | refine valJ_at (fun w hw => ld23 (Hs.cell 7 rfl rfl w hw) (Hs.cell 7 rfl rfl w hw) (Hs.cell 7 rfl rfl w hw)) ?_
    first | refine valJ_at (fun w hw => ld28 (Hs.cell 0 rfl rfl w hw) (Hs.cell 0 rfl rfl w hw) (Hs.cell 0 rfl rfl w hw) (Hs.cell 0 rfl rfl w hw) (Hs.cell 0 rfl rfl w hw)) ?_ | refine valJ_at (fun w hw => ld28 (Hs.cell 1 rfl rfl w hw) (Hs.cell 1 rfl rfl w hw) (Hs.cell 1 rfl rfl w hw) (Hs.cell 1 rfl rfl w hw) (Hs.cell 1 rfl rfl w hw)) ?_ | refine valJ_at (fun w hw => ld28 (Hs.cell 2 rfl rfl w hw) (Hs.cell 2 rfl rfl w hw) (Hs.cell 2 rfl rfl w hw) (Hs.cell 2 rfl rfl w hw) (Hs.cell 2 rfl rfl w hw)) ?_ | refine valJ_at (fun w hw => ld28 (Hs.cell 3 rfl rfl w hw) (Hs.cell 3 rfl rfl w hw) (Hs.cell 3 rfl rfl w hw) (Hs.cell 3 rfl rfl w hw) (Hs.cell 3 rfl rfl w hw)) ?_ | refine valJ_at (fun w hw => ld28 (Hs.cell 4 rfl rfl w hw) (Hs.cell 4 rfl rfl w hw) (Hs.cell 4 rfl rfl w hw) (Hs.cell 4 rfl rfl w hw) (Hs.cell 4 rfl rfl w hw)) ?_ | refine valJ_at (fun w hw => ld28 (Hs.cell 5 rfl rfl w hw) (Hs.cell 5 rfl rfl w hw) (Hs.cell 5 rfl rfl w hw) (Hs.cell 5 rfl rfl w hw) (Hs.cell 5 rfl rfl w hw)) ?_ | refine valJ_at (fun w hw => ld28 (Hs.cell 6 rfl rfl w hw) (Hs.cell 6 rfl rfl w hw) (Hs.cell 6 rfl rfl w hw) (Hs.cell 6 rfl rfl w hw) (Hs.cell 6 rfl rfl w hw)) ?_ | refine valJ_at (fun w hw => ld28 (Hs.cell 7 rfl rfl w hw) (Hs.cell 7 rfl rfl w hw) (Hs.cell 7 rfl rfl w hw) (Hs.cell 7 rfl rfl w hw) (Hs.cell 7 rfl rfl w hw)) ?_
    refine valJ_ok (sh24 (by omega)) ?_
    have fin : ∀ (R1 : List Res) (t : Sg) (At : Option Addr) (ct b12 : Nat) (e : Int) (K1 : Value × Value → World → Prop), (∀ (A' : Option Addr) (c' : Nat) (t : Sg) (At : Option Addr) (ct : Nat) (A2 : Option Addr) (c2 : Nat) (rs2 : List Rc) (R2 : List Res) w, LgI g w0 F L (rRow A1 c1 ls :: L) b3 b7 b9 l2 A' c' t At ct A2 c2 rs2 R2 w → K1 (.slice A' l2.length c', .slice A2 (offs 0 rs2).length c2) w) → ∀ w, (e = 0 → MayS g s) → SgOk t → t.L.length ≤ 64 → Sl w0 F (R1 ++ (R ++ (rRow A1 c1 ls :: L))) At ct t.L →
        St w0 F w (Res.cells b12 28 (encS t At ct) :: LgL (R1 ++ (R ++ (rRow A1 c1 ls :: L))) g s As cs b3 b7 b9 A2 c2 rs) → m5_11 (LogR g w0 F L) K1 (.slice A' (l1 ++ l2).length c') (.int .i64 m) (.pointer (some ⟨b3, 0, none⟩)) (.pointer (some ⟨b7, 0, none⟩)) (.pointer (some ⟨b9, 0, none⟩)) (.slice A2 (offs 0 rs).length c2) (.int .i64 (l1.length : Int)) (.pointer (some ⟨b12, 0, none⟩)) (.int .i64 e) w := fun R1 t At ct b12 e K1 hK w hm ht h64 hE2 hS => by
      have ea : R1 ++ (R ++ (rRow A1 c1 ls :: L)) = (R1 ++ R) ++ (rRow A1 c1 ls :: L) := (List.append_assoc ..).symm
      have hE1 : Sl w0 F (R1 ++ (R ++ (rRow A1 c1 ls :: L))) As cs s.L := Sl.pre hI.sl
      rw [ea] at hE2 hS hE1
      exact log_11 hI.mem h1 hb3 hc3 hI.rd hI.logs hm hI.ok ht ⟨hI.l64, h64⟩ hI.bnd hI.rng hE1 hE2 (fun A' c' A2 c2 rs2 w h => hK A' c' t At ct A2 c2 rs2 _ w h) hS
    refine ⟨?_, ?_⟩
    · refine callR (by kernel_rfl) (run_ret (B := [grow A2 c2 (offs 0 rs), Res.cells b9 28 (encS s As cs), Res.cells b7 28 zc, Res.cells b3 23 (encGr g)]) (L := R ++ (rRow A1 c1 ls :: L)) (by omega) hrun hI.ok hI.sl hS) ?_
      rintro _ w ⟨R1, t, sv, x, e, rfl, hm, ⟨ht, h64, At, ct, rfl, hE2⟩, hS⟩
      have hS := St.swap (A := R1) (B := [grow A2 c2 (offs 0 rs), Res.cells b9 28 (encS s As cs), Res.cells b7 28 zc, Res.cells b3 23 (encGr g)]) (L := R ++ (rRow A1 c1 ls :: L)) hS
      refine stay_Hs hS (fun q hq => mem_under (B := [grow A2 c2 (offs 0 rs), Res.cells b9 28 (encS s As cs), Res.cells b7 28 zc, Res.cells b3 23 (encGr g)]) (R := R1) q hq) ?_
      have hS : St w0 F w (LgL (R1 ++ (R ++ (rRow A1 c1 ls :: L))) g s As cs b3 b7 b9 A2 c2 rs) := hS
      refine valJ_ok (extract_ok _ 0 rfl) ?_
      refine valJ_ok (extract_ok _ 1 rfl) ?_
      refine valJ_ok (extract_ok _ 2 rfl) ?_
      refine new_ok (al28 _) hS ?_
      intro b12 w hS
      refine stay_Hs hS (fun q hq => .tail _ (mem_under (B := [grow A2 c2 (offs 0 rs), Res.cells b9 28 (encS s As cs), Res.cells b7 28 zc, Res.cells b3 23 (encGr g)]) (R := R1) q hq)) ?_
      first | refine ss28 0 hS rfl rfl rfl rfl rfl rfl ?_ | refine ss28 1 hS rfl rfl rfl rfl rfl rfl ?_ | refine ss28 2 hS rfl rfl rfl rfl rfl rfl ?_ | refine ss28 3 hS rfl rfl rfl rfl rfl rfl ?_ | refine ss28 4 hS rfl rfl rfl rfl rfl rfl ?_ | refine ss28 5 hS rfl rfl rfl rfl rfl rfl ?_ | refine ss28 6 hS rfl rfl rfl rfl rfl rfl ?_ | refine ss28 7 hS rfl rfl rfl rfl rfl rfl ?_
      intro w hS
      simp only [List.set_cons_zero, List.set_cons_succ] at hS
      refine stay_Hs hS (fun q hq => .tail _ (mem_under (B := [grow A2 c2 (offs 0 rs), Res.cells b9 28 (encS s As cs), Res.cells b7 28 zc, Res.cells b3 23 (encGr g)]) (R := R1) q hq)) ?_
      refine fin R1 t At ct _ e _ (fun A' c' t At ct A2 c2 rs2 R2 w h => ⟨⟨l2, A', c', t, At, ct, A2, c2, rs2, R2, rfl, h⟩, ?_⟩) _ hm ht h64 hE2 hS
      show l2.length < (l1 ++ l2).length
      omega
    · refine new_ok (al28 _) hS ?_
      intro b12 w hS
      refine stay_Hs hS (by first | exact fun _ h => h | exact fun _ h => .tail _ h | exact fun _ h => .tail _ (.tail _ h) | simp) ?_
      refine callR (by kernel_rfl) (run_ret (B := [Res.cells b12 28 zc, grow A2 c2 (offs 0 rs), Res.cells b9 28 (encS s As cs), Res.cells b7 28 zc, Res.cells b3 23 (encGr g)]) (L := R ++ (rRow A1 c1 ls :: L)) (by omega) hrun hI.ok hI.sl hS) ?_
      rintro _ w ⟨R1, t, sv, x, e, rfl, hm, ⟨ht, h64, At, ct, rfl, hE2⟩, hS⟩
      have hS := St.swap (A := R1) (B := [Res.cells b12 28 zc, grow A2 c2 (offs 0 rs), Res.cells b9 28 (encS s As cs), Res.cells b7 28 zc, Res.cells b3 23 (encGr g)]) (L := R ++ (rRow A1 c1 ls :: L)) hS
      refine stay_Hs hS (fun q hq => .tail _ (mem_under (B := [grow A2 c2 (offs 0 rs), Res.cells b9 28 (encS s As cs), Res.cells b7 28 zc, Res.cells b3 23 (encGr g)]) (R := R1) q hq)) ?_
      have hS : St w0 F w (Res.cells b12 28 zc :: LgL (R1 ++ (R ++ (rRow A1 c1 ls :: L))) g s As cs b3 b7 b9 A2 c2 rs) := hS
      refine valJ_ok (extract_ok _ 0 rfl) ?_
      refine valJ_ok (extract_ok _ 1 rfl) ?_
      refine valJ_ok (extract_ok _ 2 rfl) ?_
      first | refine ss28 0 hS rfl rfl rfl rfl rfl rfl ?_ | refine ss28 1 hS rfl rfl rfl rfl rfl rfl ?_ | refine ss28 2 hS rfl rfl rfl rfl rfl rfl ?_ | refine ss28 3 hS rfl rfl rfl rfl rfl rfl ?_ | refine ss28 4 hS rfl rfl rfl rfl rfl rfl ?_ | refine ss28 5 hS rfl rfl rfl rfl rfl rfl ?_ | refine ss28 6 hS rfl rfl rfl rfl rfl rfl ?_ | refine ss28 7 hS rfl rfl rfl rfl rfl rfl ?_
      intro w hS
      simp only [List.set_cons_zero, List.set_cons_succ] at hS
      refine stay_Hs hS (fun q hq => .tail _ (mem_under (B := [grow A2 c2 (offs 0 rs), Res.cells b9 28 (encS s As cs), Res.cells b7 28 zc, Res.cells b3 23 (encGr g)]) (R := R1) q hq)) ?_
      refine fin R1 t At ct _ e _ (fun A' c' t At ct A2 c2 rs2 R2 w h => ⟨⟨l2, A', c', t, At, ct, A2, c2, rs2, R2, rfl, h⟩, ?_⟩) _ hm ht h64 hE2 hS
      show l2.length < (l1 ++ l2).length
      omega
  · exact log_6 hI
end
end
theorem offs_ok {i : Int} {rs : List Rc} (h : ∀ r ∈ rs, RcI r) : ∀ x ∈ offs i rs, GtOk x := fun x hx => by
  have hm : x.r ∈ (offs i rs).map (·.r) := List.mem_map.2 ⟨x, hx, rfl⟩
  rw [offs_r] at hm
  exact h _ hm
section
variable {w0 : World} {g : Gr} {l : List Rc} {A : Option Addr} {c : Nat}
end
section
variable {H : Type} {en : TypeId × Value → H} {w : World}
theorem openGr {n : Nat} {cs : List Value} {y : DataW H × List MemPlace} (h : DataW.trod en Try.prog w 0 (fun _ => true) true n 23 cs = some y) : ∃ g : Gr, cs = encGr g ∧ I64 g.size ∧ I64 g.hop ∧ I64 g.late := by
  obtain ⟨hl, hf⟩ := open_structE Try.underlying23 h
  rw [show Try.prog.cellsOf 23 = 3 from by kernel_rfl] at hl
  obtain ⟨c0, c1, c2, rfl⟩ : ∃ c0 c1 c2, cs = [c0, c1, c2] := by
    match cs, hl with
    | [c0, c1, c2], _ => exact ⟨c0, c1, c2, rfl⟩
  obtain ⟨_, _, h0⟩ := hf 0 3 0 1 rfl icells3
  obtain ⟨_, _, h1⟩ := hf 1 3 1 1 rfl icells3
  obtain ⟨_, _, h2⟩ := hf 2 3 2 1 rfl icells3
  obtain ⟨a0, e0, _, w0⟩ := DataW.trod_int Try.underlying3 h0
  obtain ⟨a1, e1, _, w1⟩ := DataW.trod_int Try.underlying3 h1
  obtain ⟨a2, e2, _, w2⟩ := DataW.trod_int Try.underlying3 h2
  simp at e0 e1 e2
  subst e0; subst e1; subst e2
  exact ⟨⟨a0, a1, a2⟩, rfl, iI w0, iI w1, iI w2⟩
theorem openRcs {n : Nat} {cs : List Value} {y : DataW H × List MemPlace} (h : DataW.trod en Try.prog w 0 (fun _ => true) true n 24 cs = some y) :
    ∃ (A : Option Addr) (c : Nat) (l : List Rc), cs = [.slice A l.length c] ∧ l.length ≤ c ∧ (A = none → c = 0) ∧ Rd w 3 A l.length (l.flatMap encR) ∧ ∀ x ∈ l, RcI x :=
  open_rowsE encR RcI (by omega) Try.underlying24 (by kernel_rfl) (fun n cs y h => by
    obtain ⟨r, rfl, h1, h2, h3⟩ := openRc h
    exact ⟨r, rfl, rfl, h1, h2, h3⟩) h
end
end Go.Proofs.Ytnhgdngbdoifnaa.M
namespace Go.Proofs.Ytnhgdngbdoifnaa.M
open Go.Proofs.Ytnhgdngbdoifnaa.F
set_option linter.unusedVariables false
set_option maxRecDepth 100000
variable {R : VP} {Q : EQ}
def m52_5 (R : VP) (t4 t5 : Value) (w : World) : Prop :=
  R (Value.tuple #[t4, t5]) w
def m52_3 (R : VP) (t4 t5 : Value) (w : World) : Prop :=
  R (Value.tuple #[t4, t5]) w
def m52_2 (R : VP) (n0 : Value) (w : World) : Prop :=
  valP Try.prog (Op.unary UnOp.neg n0) w fun t17 w =>
  builtinP Try.prog Builtin.max #[3, 3] 3 #[false, false] #[n0, t17] w fun t18 w =>
  m52_3 R t18 (Value.bool true) w
def m52_4 (R : VP) (n0 t14 : Value) (w : World) : Prop :=
  condP t14
  (m52_5 R (vi 0) (Value.bool false) w)
  (m52_2 R n0 w)
def m52_1 (R : VP) (n0 count1 : Value) (w : World) : Prop :=
  valP Try.prog (Op.unary UnOp.neg count1) w fun t8 w =>
  valP Try.prog (binS BinOp.lss 3 (tm 6) (tm 8) n0 t8) w fun t9 w =>
  condP t9
  (pickP t9 (Value.bool true) undef fun t14 =>
  m52_4 R n0 t14 w)
  (valP Try.prog (binS BinOp.gtr 3 (tm 11) (tm 12) n0 count1) w fun t13 w =>
  pickP t9 (Value.bool true) t13 fun t14 =>
  m52_4 R n0 t14 w)
def m52_0 (R : VP) (n0 count1 : Value) (w : World) : Prop :=
  m52_1 R n0 count1 w
abbrev W52 := cwp Try.prog (fun i => 0)
noncomputable def k52_0 := bodyOf Try.f52
noncomputable def k52_1 := c2 k52_0
noncomputable def k52_2 := c2 k52_1
noncomputable def k52_3 := c2 k52_2
noncomputable def k52_4 := c2 (c1 k52_1)
noncomputable def k52_5 := c2 (c1 k52_4)
abbrev hR52 (R : VP) (Q : EQ) : Prop := ∀ e w, (R (Value.tuple #[(e 4), (e 5)]) w) → Q .ret e w
theorem s52_5 (hR : hR52 R Q) (e : Env) (w : World) (h : m52_5 R (e 4) (e 5) w) : W52 k52_5 Q e w := by
  exact reA (hR _ _ h)
theorem s52_3 (hR : hR52 R Q) (e : Env) (w : World) (h : m52_3 R (e 4) (e 5) w) : W52 k52_3 Q e w := by
  exact reA (hR _ _ h)
theorem s52_2 (hR : hR52 R Q) (e : Env) (w : World) (h : m52_2 R (e 0) w) : W52 k52_2 Q e w := by
  refine seA ?_
  exact rgA 3 (fun e w => m52_3 R (e 4) (e 5) w) h fun e w h => then_N (s52_3 hR e w h)
theorem s52_4 (hN : ∀ e w, (m52_2 R (e 0) w) → Q .normal e w) (hR : hR52 R Q) (e : Env) (w : World) (h : m52_4 R (e 0) (e 14) w) : W52 k52_4 Q e w := by
  refine coA (Operand.tmp 14) h (fun h1 => ?_) (fun h1 => ?_)
  · refine seA ?_
    exact rgA 2 (fun e w => m52_5 R (e 4) (e 5) w) h1 fun e w h => then_N (s52_5 hR e w h)
  · exact skA (hN _ _ h1)
theorem s52_1 (hR : hR52 R Q) (e : Env) (w : World) (h : m52_1 R (e 0) (e 1) w) : W52 k52_1 Q e w := by
  refine seA ?_
  have hN : ∀ e w, (m52_2 R (e 0) w) → (thenE (W52 k52_2 Q) Q) .normal e w := fun e w h => then_N (s52_2 hR e w h)
  have hR : hR52 R (thenE (W52 k52_2 Q) Q) := fun e w h => then_R (hR e w h)
  refine seA ?_
  exact rgA 1 (fun e w => m52_4 R (e 0) (e 14) w) h fun e w h => then_N (s52_4 hN hR e w h)
theorem s52_0 (hR : hR52 R Q) (e : Env) (w : World) (h : m52_0 R (e 0) (e 1) w) : W52 k52_0 Q e w := by
  refine seA ?_
  exact rgA 0 (fun e w => m52_1 R (e 0) (e 1) w) h fun e w h => then_N (s52_1 hR e w h)
abbrev m52 (R : VP) (n0 count1 : Value) (w : World) : Prop := m52_0 R n0 count1 w
theorem s52 (n0 count1 : Value) {R : VP} {w : World} (h : m52 R n0 count1 w) :
    Calls Try.prog 52 #[n0, count1] w fun e w' => ∃ v, e = .returned v ∧ R v w' :=
  calls_of_cwp (st := (fun i => 0)) (c := k52_0) (by kernel_rfl) Try.func52 (by kernel_rfl) (Nat.le_of_ble_eq_true (by kernel_rfl)) (by kernel_rfl)
    (s52_0 (R := R) (Q := endE Try.prog Try.f52 R) (fun e w h => kcast (by kernel_rfl) h) (argsE #[n0, count1]) w (kcast (by kernel_rfl) h))
def m42_18 (R : VP) (K1 : (Value × Value × Value) → World → Prop) (a1 left3 ok4 t29 t30 : Value) (w : World) : Prop :=
  valP Try.prog (binS BinOp.add 3 (tm 30) (ci 1) t30 (vi 1)) w fun t46 w =>
  K1 (left3, ok4, t46) w
def m42_20 (R : VP) (K1 : (Value × Value × Value) → World → Prop) (a1 left3 ok4 n6 t29 t30 : Value) (w : World) : Prop :=
  valP Try.prog (binS BinOp.sub 3 (tm 43) (tm 44) left3 n6) w fun t45 w =>
  m42_18 R K1 a1 t45 ok4 t29 t30 w
def m42_19 (R : VP) (K1 : (Value × Value × Value) → World → Prop) (a1 left3 ok4 n6 t29 t30 : Value) (w : World) : Prop :=
  condP ok4
  (valP Try.prog (binS BinOp.geq 3 (tm 35) (ci 0) n6 (vi 0)) w fun t36 w =>
  pickP ok4 t36 (Value.bool false) fun t37 =>
  condP t37
  (valP Try.prog (binS BinOp.leq 3 (tm 39) (tm 40) n6 left3) w fun t41 w =>
  pickP t37 t41 (Value.bool false) fun t42 =>
  m42_20 R K1 a1 left3 t42 n6 t29 t30 w)
  (pickP t37 undef (Value.bool false) fun t42 =>
  m42_20 R K1 a1 left3 t42 n6 t29 t30 w))
  (pickP ok4 undef (Value.bool false) fun t37 =>
  condP t37
  (valP Try.prog (binS BinOp.leq 3 (tm 39) (tm 40) n6 left3) w fun t41 w =>
  pickP t37 t41 (Value.bool false) fun t42 =>
  m42_20 R K1 a1 left3 t42 n6 t29 t30 w)
  (pickP t37 undef (Value.bool false) fun t42 =>
  m42_20 R K1 a1 left3 t42 n6 t29 t30 w))
def m42_17 (R : VP) (K1 : (Value × Value × Value) → World → Prop) (a1 left3 ok4 t29 t30 : Value) (w : World) : Prop :=
  valP Try.prog (Instr.index 63 t29 t30) w fun t32 w =>
  m42_19 R K1 a1 left3 ok4 t32 t29 t30 w
def m42_13 (R : VP) (t2 : Value) (w : World) : Prop :=
  R t2 w
def m42_11 (R : VP) (t2 : Value) (w : World) : Prop :=
  R t2 w
def m42_9 (R : VP) (t2 : Value) (w : World) : Prop :=
  R t2 w
def m42_8 (R : VP) (w : World) : Prop :=
  m42_9 R (vi 0) w
def m42_10 (R : VP) (t82 : Value) (w : World) : Prop :=
  condP t82
  (m42_11 R (vi 1) w)
  (m42_8 R w)
def m42_7 (R : VP) (a1 x7 is8 y9 are10 : Value) (w : World) : Prop :=
  valP Try.prog (Op.unary UnOp.not is8) w fun t70 w =>
  condP t70
  (pickP t70 (Value.bool true) undef fun t74 =>
  condP t74
  (pickP t74 (Value.bool true) undef fun t82 =>
  m42_10 R t82 w)
  (valP Try.prog (binS BinOp.add 3 (tm 76) (tm 77) x7 y9) w fun t78 w =>
  valP Try.prog (Instr.fieldAt 65 a1 0) w fun t79 w =>
  valP Try.prog (Instr.loadAt 3 t79) w fun t80 w =>
  valP Try.prog (binS BinOp.gtr 3 (tm 78) (tm 80) t78 t80) w fun t81 w =>
  pickP t74 (Value.bool true) t81 fun t82 =>
  m42_10 R t82 w))
  (valP Try.prog (Op.unary UnOp.not are10) w fun t73 w =>
  pickP t70 (Value.bool true) t73 fun t74 =>
  condP t74
  (pickP t74 (Value.bool true) undef fun t82 =>
  m42_10 R t82 w)
  (valP Try.prog (binS BinOp.add 3 (tm 76) (tm 77) x7 y9) w fun t78 w =>
  valP Try.prog (Instr.fieldAt 65 a1 0) w fun t79 w =>
  valP Try.prog (Instr.loadAt 3 t79) w fun t80 w =>
  valP Try.prog (binS BinOp.gtr 3 (tm 78) (tm 80) t78 t80) w fun t81 w =>
  pickP t74 (Value.bool true) t81 fun t82 =>
  m42_10 R t82 w))
def m42_6 (R : VP) (a1 x7 is8 : Value) (w : World) : Prop :=
  valP Try.prog (Instr.fieldAt 65 a1 6) w fun t62 w =>
  valP Try.prog (Instr.loadAt 3 t62) w fun t63 w =>
  valP Try.prog (Instr.fieldAt 65 a1 0) w fun t64 w =>
  valP Try.prog (Instr.loadAt 3 t64) w fun t65 w =>
  callP Try.prog (fnV 52) #[t63, t65] w fun t66 w =>
  valP Try.prog (Instr.extract t66 0) w fun t67 w =>
  valP Try.prog (Instr.extract t66 1) w fun t68 w =>
  m42_7 R a1 x7 is8 t67 t68 w
def m42_5 (R : VP) (a1 : Value) (w : World) : Prop :=
  valP Try.prog (Instr.fieldAt 65 a1 5) w fun t54 w =>
  valP Try.prog (Instr.loadAt 3 t54) w fun t55 w =>
  valP Try.prog (Instr.fieldAt 65 a1 0) w fun t56 w =>
  valP Try.prog (Instr.loadAt 3 t56) w fun t57 w =>
  callP Try.prog (fnV 52) #[t55, t57] w fun t58 w =>
  valP Try.prog (Instr.extract t58 0) w fun t59 w =>
  valP Try.prog (Instr.extract t58 1) w fun t60 w =>
  m42_6 R a1 t59 t60 w
def m42_12 (R : VP) (a1 t52 : Value) (w : World) : Prop :=
  condP t52
  (m42_13 R (vi 1) w)
  (m42_5 R a1 w)
def m42_4 (R : VP) (a1 left3 ok4 : Value) (w : World) : Prop :=
  valP Try.prog (Op.unary UnOp.not ok4) w fun t48 w =>
  condP t48
  (pickP t48 (Value.bool true) undef fun t52 =>
  m42_12 R a1 t52 w)
  (valP Try.prog (binS BinOp.neq 3 (tm 50) (ci 0) left3 (vi 0)) w fun t51 w =>
  pickP t48 (Value.bool true) t51 fun t52 =>
  m42_12 R a1 t52 w)
def m42_16 (R : VP) (K1 : (Value × Value × Value) → World → Prop) (a1 left3 ok4 t29 t30 t31 : Value) (w : World) : Prop :=
  condP t31
  (m42_17 R K1 a1 left3 ok4 t29 t30 w)
  (m42_4 R a1 left3 ok4 w)
def m42_15 (R : VP) (K1 : (Value × Value × Value) → World → Prop) (a1 left3 ok4 t29 t30 : Value) (w : World) : Prop :=
  valP Try.prog (binS BinOp.lss 3 (tm 30) (ci 4) t30 (vi 4)) w fun t31 w =>
  m42_16 R K1 a1 left3 ok4 t29 t30 t31 w
def m42_14 (R : VP) (a1 left3 ok4 t29 t30 : Value) (w : World) : Prop :=
  loopP (fun (K1 : (Value × Value × Value) → World → Prop) (s : Value × Value × Value) w => m42_15 R K1 a1 s.1 s.2.1 t29 s.2.2 w) (left3, ok4, t30) w
def m42_3 (R : VP) (a1 left3 ok4 : Value) (w : World) : Prop :=
  valP Try.prog (Instr.fieldAt 65 a1 4) w fun t28 w =>
  valP Try.prog (Instr.loadAt 63 t28) w fun t29 w =>
  m42_14 R a1 left3 ok4 t29 (vi 0) w
def m42_2 (R : VP) (a1 left3 : Value) (w : World) : Prop :=
  valP Try.prog (Instr.fieldAt 65 a1 0) w fun t13 w =>
  valP Try.prog (Instr.loadAt 3 t13) w fun t14 w =>
  valP Try.prog (binS BinOp.geq 3 (tm 14) (ci 1) t14 (vi 1)) w fun t15 w =>
  condP t15
  (valP Try.prog (Instr.fieldAt 65 a1 0) w fun t17 w =>
  valP Try.prog (Instr.loadAt 3 t17) w fun t18 w =>
  valP Try.prog (binS BinOp.leq 3 (tm 18) (ci 1099511627776) t18 (vi 1099511627776)) w fun t19 w =>
  pickP t15 t19 (Value.bool false) fun t20 =>
  condP t20
  (valP Try.prog (Instr.fieldAt 65 a1 2) w fun t22 w =>
  valP Try.prog (Instr.loadAt 3 t22) w fun t23 w =>
  valP Try.prog (Instr.fieldAt 65 a1 3) w fun t24 w =>
  valP Try.prog (Instr.loadAt 3 t24) w fun t25 w =>
  valP Try.prog (binS BinOp.leq 3 (tm 23) (tm 25) t23 t25) w fun t26 w =>
  pickP t20 t26 (Value.bool false) fun t27 =>
  m42_3 R a1 left3 t27 w)
  (pickP t20 undef (Value.bool false) fun t27 =>
  m42_3 R a1 left3 t27 w))
  (pickP t15 undef (Value.bool false) fun t20 =>
  condP t20
  (valP Try.prog (Instr.fieldAt 65 a1 2) w fun t22 w =>
  valP Try.prog (Instr.loadAt 3 t22) w fun t23 w =>
  valP Try.prog (Instr.fieldAt 65 a1 3) w fun t24 w =>
  valP Try.prog (Instr.loadAt 3 t24) w fun t25 w =>
  valP Try.prog (binS BinOp.leq 3 (tm 23) (tm 25) t23 t25) w fun t26 w =>
  pickP t20 t26 (Value.bool false) fun t27 =>
  m42_3 R a1 left3 t27 w)
  (pickP t20 undef (Value.bool false) fun t27 =>
  m42_3 R a1 left3 t27 w))
def m42_1 (R : VP) (a1 : Value) (w : World) : Prop :=
  valP Try.prog (Instr.fieldAt 65 a1 0) w fun t11 w =>
  valP Try.prog (Instr.loadAt 3 t11) w fun t12 w =>
  m42_2 R a1 t12 w
def m42_0 (R : VP) (a0 : Value) (w : World) : Prop :=
  valP Try.prog (Instr.box 65 a0) w fun a1 w =>
  m42_1 R a1 w
abbrev W42 := cwp Try.prog (fun i => 0)
noncomputable def k42_0 := bodyOf Try.f42
noncomputable def k42_1 := c2 k42_0
noncomputable def k42_2 := c2 k42_1
noncomputable def k42_3 := c2 k42_2
noncomputable def k42_4 := c2 k42_3
noncomputable def k42_5 := c2 k42_4
noncomputable def k42_6 := c2 k42_5
noncomputable def k42_7 := c2 k42_6
noncomputable def k42_8 := c2 k42_7
noncomputable def k42_9 := c2 k42_8
noncomputable def k42_10 := c2 (c1 k42_7)
noncomputable def k42_11 := c2 (c1 k42_10)
noncomputable def k42_12 := c2 (c1 k42_4)
noncomputable def k42_13 := c2 (c1 k42_12)
noncomputable def k42_14 := c2 (c1 k42_3)
noncomputable def k42_15 := c1 (c1 k42_14)
noncomputable def k42_16 := c2 k42_15
noncomputable def k42_17 := c2 k42_16
noncomputable def k42_18 := c2 k42_17
noncomputable def k42_19 := c2 (c1 (c1 k42_17))
noncomputable def k42_20 := c2 k42_19
theorem s42_18 {K1 : (Value × Value × Value) → World → Prop} (hN : ∀ e w, (K1 ((e 3), (e 4), (e 30)) w) → Q .normal e w) (e : Env) (w : World) (h : m42_18 R K1 (e 1) (e 3) (e 4) (e 29) (e 30) w) : W42 k42_18 Q e w := by
  exact rgA 8 (fun e w => K1 ((e 3), (e 4), (e 30)) w) h hN
theorem s42_20 {K1 : (Value × Value × Value) → World → Prop} (hN : ∀ e w, (m42_18 R K1 (e 1) (e 3) (e 4) (e 29) (e 30) w) → Q .normal e w) (e : Env) (w : World) (h : m42_20 R K1 (e 1) (e 3) (e 4) (e 6) (e 29) (e 30) w) : W42 k42_20 Q e w := by
  exact rgA 7 (fun e w => m42_18 R K1 (e 1) (e 3) (e 4) (e 29) (e 30) w) h hN
theorem s42_19 {K1 : (Value × Value × Value) → World → Prop} (hN : ∀ e w, (m42_18 R K1 (e 1) (e 3) (e 4) (e 29) (e 30) w) → Q .normal e w) (e : Env) (w : World) (h : m42_19 R K1 (e 1) (e 3) (e 4) (e 6) (e 29) (e 30) w) : W42 k42_19 Q e w := by
  refine seA ?_
  exact rgA 6 (fun e w => m42_20 R K1 (e 1) (e 3) (e 4) (e 6) (e 29) (e 30) w) h fun e w h => then_N (s42_20 hN e w h)
theorem s42_17 {K1 : (Value × Value × Value) → World → Prop} (hN : ∀ e w, (K1 ((e 3), (e 4), (e 30)) w) → Q .normal e w) (e : Env) (w : World) (h : m42_17 R K1 (e 1) (e 3) (e 4) (e 29) (e 30) w) : W42 k42_17 Q e w := by
  refine seA ?_
  have hN : ∀ e w, (m42_18 R K1 (e 1) (e 3) (e 4) (e 29) (e 30) w) → (thenE (W42 k42_18 Q) Q) .normal e w := fun e w h => then_N (s42_18 hN e w h)
  refine block_ok 1 (by kernel_rfl) ?_
  have hN : ∀ e w, (m42_18 R K1 (e 1) (e 3) (e 4) (e 29) (e 30) w) → (inBlockE 1 (thenE (W42 k42_18 Q) Q)) .normal e w := fun e w h => block_N (hN e w h)
  refine seA ?_
  exact rgA 5 (fun e w => m42_19 R K1 (e 1) (e 3) (e 4) (e 6) (e 29) (e 30) w) h fun e w h => then_N (s42_19 (R := R) (Q := (inBlockE 1 (thenE (W42 k42_18 Q) Q))) hN e w h)
abbrev hR42 (R : VP) (Q : EQ) : Prop := ∀ e w, (R (e 2) w) → Q .ret e w
theorem s42_13 (hR : hR42 R Q) (e : Env) (w : World) (h : m42_13 R (e 2) w) : W42 k42_13 Q e w := by
  exact reA (hR _ _ h)
theorem s42_11 (hR : hR42 R Q) (e : Env) (w : World) (h : m42_11 R (e 2) w) : W42 k42_11 Q e w := by
  exact reA (hR _ _ h)
theorem s42_9 (hR : hR42 R Q) (e : Env) (w : World) (h : m42_9 R (e 2) w) : W42 k42_9 Q e w := by
  exact reA (hR _ _ h)
theorem s42_8 (hR : hR42 R Q) (e : Env) (w : World) (h : m42_8 R w) : W42 k42_8 Q e w := by
  refine seA ?_
  exact rgA 15 (fun e w => m42_9 R (e 2) w) h fun e w h => then_N (s42_9 hR e w h)
theorem s42_10 (hN : ∀ e w, (m42_8 R w) → Q .normal e w) (hR : hR42 R Q) (e : Env) (w : World) (h : m42_10 R (e 82) w) : W42 k42_10 Q e w := by
  refine coA (Operand.tmp 82) h (fun h1 => ?_) (fun h1 => ?_)
  · refine seA ?_
    exact rgA 14 (fun e w => m42_11 R (e 2) w) h1 fun e w h => then_N (s42_11 hR e w h)
  · exact skA (hN _ _ h1)
theorem s42_7 (hR : hR42 R Q) (e : Env) (w : World) (h : m42_7 R (e 1) (e 7) (e 8) (e 9) (e 10) w) : W42 k42_7 Q e w := by
  refine seA ?_
  have hN : ∀ e w, (m42_8 R w) → (thenE (W42 k42_8 Q) Q) .normal e w := fun e w h => then_N (s42_8 hR e w h)
  have hR : hR42 R (thenE (W42 k42_8 Q) Q) := fun e w h => then_R (hR e w h)
  refine seA ?_
  exact rgA 13 (fun e w => m42_10 R (e 82) w) h fun e w h => then_N (s42_10 hN hR e w h)
theorem s42_6 (hR : hR42 R Q) (e : Env) (w : World) (h : m42_6 R (e 1) (e 7) (e 8) w) : W42 k42_6 Q e w := by
  refine seA ?_
  exact rgA 12 (fun e w => m42_7 R (e 1) (e 7) (e 8) (e 9) (e 10) w) h fun e w h => then_N (s42_7 hR e w h)
theorem s42_5 (hR : hR42 R Q) (e : Env) (w : World) (h : m42_5 R (e 1) w) : W42 k42_5 Q e w := by
  refine seA ?_
  exact rgA 11 (fun e w => m42_6 R (e 1) (e 7) (e 8) w) h fun e w h => then_N (s42_6 hR e w h)
theorem s42_12 (hN : ∀ e w, (m42_5 R (e 1) w) → Q .normal e w) (hR : hR42 R Q) (e : Env) (w : World) (h : m42_12 R (e 1) (e 52) w) : W42 k42_12 Q e w := by
  refine coA (Operand.tmp 52) h (fun h1 => ?_) (fun h1 => ?_)
  · refine seA ?_
    exact rgA 10 (fun e w => m42_13 R (e 2) w) h1 fun e w h => then_N (s42_13 hR e w h)
  · exact skA (hN _ _ h1)
theorem s42_4 (hR : hR42 R Q) (e : Env) (w : World) (h : m42_4 R (e 1) (e 3) (e 4) w) : W42 k42_4 Q e w := by
  refine seA ?_
  have hN : ∀ e w, (m42_5 R (e 1) w) → (thenE (W42 k42_5 Q) Q) .normal e w := fun e w h => then_N (s42_5 hR e w h)
  have hR : hR42 R (thenE (W42 k42_5 Q) Q) := fun e w h => then_R (hR e w h)
  refine seA ?_
  exact rgA 9 (fun e w => m42_12 R (e 1) (e 52) w) h fun e w h => then_N (s42_12 hN hR e w h)
theorem s42_16 {K1 : (Value × Value × Value) → World → Prop} (hN : ∀ e w, (K1 ((e 3), (e 4), (e 30)) w) → Q .normal e w) (hX0 : ∀ e w, (m42_4 R (e 1) (e 3) (e 4) w) → Q (.exit 0) e w) (e : Env) (w : World) (h : m42_16 R K1 (e 1) (e 3) (e 4) (e 29) (e 30) (e 31) w) : W42 k42_16 Q e w := by
  refine seA ?_
  have hN : ∀ e w, (m42_17 R K1 (e 1) (e 3) (e 4) (e 29) (e 30) w) → (thenE (W42 k42_17 Q) Q) .normal e w := fun e w h => then_N (s42_17 hN e w h)
  have hX0 : ∀ e w, (m42_4 R (e 1) (e 3) (e 4) w) → (thenE (W42 k42_17 Q) Q) (.exit 0) e w := fun e w h => then_X (hX0 e w h)
  refine coA (Operand.tmp 31) h (fun h1 => ?_) (fun h1 => ?_)
  · exact skA (hN _ _ h1)
  · exact exA 0 (hX0 _ _ h1)
theorem s42_15 {K1 : (Value × Value × Value) → World → Prop} (hN : ∀ e w, (K1 ((e 3), (e 4), (e 30)) w) → Q .normal e w) (hX0 : ∀ e w, (m42_4 R (e 1) (e 3) (e 4) w) → Q (.exit 0) e w) (e : Env) (w : World) (h : m42_15 R K1 (e 1) (e 3) (e 4) (e 29) (e 30) w) : W42 k42_15 Q e w := by
  refine seA ?_
  exact rgA 4 (fun e w => m42_16 R K1 (e 1) (e 3) (e 4) (e 29) (e 30) (e 31) w) h fun e w h => then_N (s42_16 hN hX0 e w h)
theorem s42_14 (hN : ∀ e w, (m42_4 R (e 1) (e 3) (e 4) w) → Q .normal e w) (e : Env) (w : World) (h : m42_14 R (e 1) (e 3) (e 4) (e 29) (e 30) w) : W42 k42_14 Q e w := by
  refine block_ok 0 (by kernel_rfl) ?_
  have hX0 : ∀ e w, (m42_4 R (e 1) (e 3) (e 4) w) → (inBlockE 0 Q) (.exit 0) e w := fun e w h => inBlock_same (Q := Q) 0 (hN e w h)
  refine loop_ok' (fun (e : Env) => (e 3, e 4, e 30)) [1, 29] (by kernel_rfl) (by kernel_rfl) h (fun K e' w' hk h' => ?_)
  have r1 : e' 1 = e 1 := hk 1 (by decide)
  have r29 : e' 29 = e 29 := hk 29 (by decide)
  have hX0 : ∀ e w, (m42_4 R (e 1) (e 3) (e 4) w) → (thenE (fun (e : Env) w => K ((e 3), (e 4), (e 30)) w) (inBlockE 0 Q)) (.exit 0) e w := fun e w h => then_X (hX0 e w h)
  exact s42_15 (K1 := K) (fun _ _ h => then_N h) hX0 e' w' (by rw [r1, r29]; exact h')
theorem s42_3 (hR : hR42 R Q) (e : Env) (w : World) (h : m42_3 R (e 1) (e 3) (e 4) w) : W42 k42_3 Q e w := by
  refine seA ?_
  have hN : ∀ e w, (m42_4 R (e 1) (e 3) (e 4) w) → (thenE (W42 k42_4 Q) Q) .normal e w := fun e w h => then_N (s42_4 hR e w h)
  refine seA ?_
  exact rgA 3 (fun e w => m42_14 R (e 1) (e 3) (e 4) (e 29) (e 30) w) h fun e w h => then_N (s42_14 hN e w h)
theorem s42_2 (hR : hR42 R Q) (e : Env) (w : World) (h : m42_2 R (e 1) (e 3) w) : W42 k42_2 Q e w := by
  refine seA ?_
  exact rgA 2 (fun e w => m42_3 R (e 1) (e 3) (e 4) w) h fun e w h => then_N (s42_3 hR e w h)
theorem s42_1 (hR : hR42 R Q) (e : Env) (w : World) (h : m42_1 R (e 1) w) : W42 k42_1 Q e w := by
  refine seA ?_
  exact rgA 1 (fun e w => m42_2 R (e 1) (e 3) w) h fun e w h => then_N (s42_2 hR e w h)
theorem s42_0 (hR : hR42 R Q) (e : Env) (w : World) (h : m42_0 R (e 0) w) : W42 k42_0 Q e w := by
  refine seA ?_
  exact rgA 0 (fun e w => m42_1 R (e 1) w) h fun e w h => then_N (s42_1 hR e w h)
abbrev m42 (R : VP) (a0 : Value) (w : World) : Prop := m42_0 R a0 w
theorem s42 (a0 : Value) {R : VP} {w : World} (h : m42 R a0 w) :
    Calls Try.prog 42 #[a0] w fun e w' => ∃ v, e = .returned v ∧ R v w' :=
  calls_of_cwp (st := (fun i => 0)) (c := k42_0) (by kernel_rfl) Try.func42 (by kernel_rfl) (Nat.le_of_ble_eq_true (by kernel_rfl)) (by kernel_rfl)
    (s42_0 (R := R) (Q := endE Try.prog Try.f42 R) (fun e w h => kcast (by kernel_rfl) h) (argsE #[a0]) w (kcast (by kernel_rfl) h))
def m35_17 (R : VP) (t4 t5 t6 : Value) (w : World) : Prop :=
  R (Value.tuple #[t4, t5, t6]) w
def m35_15 (R : VP) (K1 : (Value × Value × Value) → World → Prop) (t4 t5 t6 : Value) (w : World) : Prop :=
  R (Value.tuple #[t4, t5, t6]) w
def m35_10 (R : VP) (K1 : (Value × Value × Value) → World → Prop) (s0 l7 t17 t18 : Value) (w : World) : Prop :=
  valP Try.prog (binS BinOp.add 3 (tm 18) (ci 1) t18 (vi 1)) w fun t34 w =>
  K1 (s0, l7, t34) w
def m35_13 (R : VP) (K1 : (Value × Value × Value) → World → Prop) (l7 rest9 t17 t18 : Value) (w : World) : Prop :=
  m35_10 R K1 rest9 l7 t17 t18 w
def m35_12 (R : VP) (K1 : (Value × Value × Value) → World → Prop) (l7 k8 rest9 t17 t18 : Value) (w : World) : Prop :=
  valP Try.prog (Instr.buildSlice 51 1 #[(0, k8)]) w fun t31 w =>
  builtinP Try.prog Builtin.append #[51, 51] 51 #[false, false] #[l7, t31] w fun t32 w =>
  m35_13 R K1 t32 rest9 t17 t18 w
def m35_14 (R : VP) (K1 : (Value × Value × Value) → World → Prop) (l7 k8 rest9 e10 t17 t18 t27 : Value) (w : World) : Prop :=
  condP t27
  (m35_15 R K1 (Value.slice none 0 0) (Value.string ⟨#[]⟩) e10 w)
  (m35_12 R K1 l7 k8 rest9 t17 t18 w)
def m35_11 (R : VP) (K1 : (Value × Value × Value) → World → Prop) (l7 k8 rest9 e10 t17 t18 : Value) (w : World) : Prop :=
  valP Try.prog (binS BinOp.neq 35 (tm 26) (ci 0) e10 (vi 0)) w fun t27 w =>
  m35_14 R K1 l7 k8 rest9 e10 t17 t18 t27 w
def m35_9 (R : VP) (K1 : (Value × Value × Value) → World → Prop) (s0 l7 t17 t18 : Value) (w : World) : Prop :=
  callP Try.prog (fnV 31) #[s0] w fun t22 w =>
  valP Try.prog (Instr.extract t22 0) w fun t23 w =>
  valP Try.prog (Instr.extract t22 1) w fun t24 w =>
  valP Try.prog (Instr.extract t22 2) w fun t25 w =>
  m35_11 R K1 l7 t23 t24 t25 t17 t18 w
def m35_5 (R : VP) (t4 t5 t6 : Value) (w : World) : Prop :=
  R (Value.tuple #[t4, t5, t6]) w
def m35_4 (R : VP) (s0 l7 : Value) (w : World) : Prop :=
  m35_5 R l7 s0 (vi 0) w
def m35_8 (R : VP) (K1 : (Value × Value × Value) → World → Prop) (s0 l7 t17 t18 t19 : Value) (w : World) : Prop :=
  condP t19
  (m35_9 R K1 s0 l7 t17 t18 w)
  (m35_4 R s0 l7 w)
def m35_7 (R : VP) (K1 : (Value × Value × Value) → World → Prop) (s0 l7 t17 t18 : Value) (w : World) : Prop :=
  valP Try.prog (binS BinOp.lss 3 (tm 18) (tm 17) t18 t17) w fun t19 w =>
  m35_8 R K1 s0 l7 t17 t18 t19 w
def m35_6 (R : VP) (s0 l7 t17 t18 : Value) (w : World) : Prop :=
  loopP (fun (K1 : (Value × Value × Value) → World → Prop) (s : Value × Value × Value) w => m35_7 R K1 s.1 s.2.1 t17 s.2.2 w) (s0, l7, t18) w
def m35_3 (R : VP) (s0 n1 l7 : Value) (w : World) : Prop :=
  m35_6 R s0 l7 n1 (vi 0) w
def m35_2 (R : VP) (s0 n1 : Value) (w : World) : Prop :=
  m35_3 R s0 n1 (Value.slice none 0 0) w
def m35_16 (R : VP) (s0 n1 t16 : Value) (w : World) : Prop :=
  condP t16
  (m35_17 R (Value.slice none 0 0) (Value.string ⟨#[]⟩) (vi 1) w)
  (m35_2 R s0 n1 w)
def m35_1 (R : VP) (s0 n1 : Value) (w : World) : Prop :=
  valP Try.prog (binS BinOp.lss 3 (tm 11) (ci 0) n1 (vi 0)) w fun t12 w =>
  condP t12
  (pickP t12 (Value.bool true) undef fun t16 =>
  m35_16 R s0 n1 t16 w)
  (valP Try.prog (binS BinOp.gtr 3 (tm 14) (ci 64) n1 (vi 64)) w fun t15 w =>
  pickP t12 (Value.bool true) t15 fun t16 =>
  m35_16 R s0 n1 t16 w)
def m35_0 (R : VP) (s0 n1 : Value) (w : World) : Prop :=
  m35_1 R s0 n1 w
abbrev W35 := cwp Try.prog (fun i => 0)
noncomputable def k35_0 := bodyOf Try.f35
noncomputable def k35_1 := c2 k35_0
noncomputable def k35_2 := c2 k35_1
noncomputable def k35_3 := c2 k35_2
noncomputable def k35_4 := c2 k35_3
noncomputable def k35_5 := c2 k35_4
noncomputable def k35_6 := c2 (c1 k35_3)
noncomputable def k35_7 := c1 (c1 k35_6)
noncomputable def k35_8 := c2 k35_7
noncomputable def k35_9 := c2 k35_8
noncomputable def k35_10 := c2 k35_9
noncomputable def k35_11 := c2 (c1 (c1 k35_9))
noncomputable def k35_12 := c2 k35_11
noncomputable def k35_13 := c2 k35_12
noncomputable def k35_14 := c2 (c1 k35_11)
noncomputable def k35_15 := c2 (c1 k35_14)
noncomputable def k35_16 := c2 (c1 k35_1)
noncomputable def k35_17 := c2 (c1 k35_16)
abbrev hR35 (R : VP) (Q : EQ) : Prop := ∀ e w, (R (Value.tuple #[(e 4), (e 5), (e 6)]) w) → Q .ret e w
theorem s35_17 (hR : hR35 R Q) (e : Env) (w : World) (h : m35_17 R (e 4) (e 5) (e 6) w) : W35 k35_17 Q e w := by
  exact reA (hR _ _ h)
theorem s35_15 {K1 : (Value × Value × Value) → World → Prop} (hR : hR35 R Q) (e : Env) (w : World) (h : m35_15 R K1 (e 4) (e 5) (e 6) w) : W35 k35_15 Q e w := by
  exact reA (hR _ _ h)
theorem s35_10 {K1 : (Value × Value × Value) → World → Prop} (hN : ∀ e w, (K1 ((e 0), (e 7), (e 18)) w) → Q .normal e w) (e : Env) (w : World) (h : m35_10 R K1 (e 0) (e 7) (e 17) (e 18) w) : W35 k35_10 Q e w := by
  exact rgA 11 (fun e w => K1 ((e 0), (e 7), (e 18)) w) h hN
theorem s35_13 {K1 : (Value × Value × Value) → World → Prop} (hN : ∀ e w, (m35_10 R K1 (e 0) (e 7) (e 17) (e 18) w) → Q .normal e w) (e : Env) (w : World) (h : m35_13 R K1 (e 7) (e 9) (e 17) (e 18) w) : W35 k35_13 Q e w := by
  exact rgA 10 (fun e w => m35_10 R K1 (e 0) (e 7) (e 17) (e 18) w) h hN
theorem s35_12 {K1 : (Value × Value × Value) → World → Prop} (hN : ∀ e w, (m35_10 R K1 (e 0) (e 7) (e 17) (e 18) w) → Q .normal e w) (e : Env) (w : World) (h : m35_12 R K1 (e 7) (e 8) (e 9) (e 17) (e 18) w) : W35 k35_12 Q e w := by
  refine seA ?_
  exact rgA 9 (fun e w => m35_13 R K1 (e 7) (e 9) (e 17) (e 18) w) h fun e w h => then_N (s35_13 hN e w h)
theorem s35_14 {K1 : (Value × Value × Value) → World → Prop} (hN : ∀ e w, (m35_12 R K1 (e 7) (e 8) (e 9) (e 17) (e 18) w) → Q .normal e w) (hR : hR35 R Q) (e : Env) (w : World) (h : m35_14 R K1 (e 7) (e 8) (e 9) (e 10) (e 17) (e 18) (e 27) w) : W35 k35_14 Q e w := by
  refine coA (Operand.tmp 27) h (fun h1 => ?_) (fun h1 => ?_)
  · refine seA ?_
    exact rgA 8 (fun e w => m35_15 R K1 (e 4) (e 5) (e 6) w) h1 fun e w h => then_N (s35_15 hR e w h)
  · exact skA (hN _ _ h1)
theorem s35_11 {K1 : (Value × Value × Value) → World → Prop} (hN : ∀ e w, (m35_10 R K1 (e 0) (e 7) (e 17) (e 18) w) → Q .normal e w) (hR : hR35 R Q) (e : Env) (w : World) (h : m35_11 R K1 (e 7) (e 8) (e 9) (e 10) (e 17) (e 18) w) : W35 k35_11 Q e w := by
  refine seA ?_
  have hN : ∀ e w, (m35_12 R K1 (e 7) (e 8) (e 9) (e 17) (e 18) w) → (thenE (W35 k35_12 Q) Q) .normal e w := fun e w h => then_N (s35_12 hN e w h)
  have hR : hR35 R (thenE (W35 k35_12 Q) Q) := fun e w h => then_R (hR e w h)
  refine seA ?_
  exact rgA 7 (fun e w => m35_14 R K1 (e 7) (e 8) (e 9) (e 10) (e 17) (e 18) (e 27) w) h fun e w h => then_N (s35_14 hN hR e w h)
theorem s35_9 {K1 : (Value × Value × Value) → World → Prop} (hN : ∀ e w, (K1 ((e 0), (e 7), (e 18)) w) → Q .normal e w) (hR : hR35 R Q) (e : Env) (w : World) (h : m35_9 R K1 (e 0) (e 7) (e 17) (e 18) w) : W35 k35_9 Q e w := by
  refine seA ?_
  have hN : ∀ e w, (m35_10 R K1 (e 0) (e 7) (e 17) (e 18) w) → (thenE (W35 k35_10 Q) Q) .normal e w := fun e w h => then_N (s35_10 hN e w h)
  have hR : hR35 R (thenE (W35 k35_10 Q) Q) := fun e w h => then_R (hR e w h)
  refine block_ok 1 (by kernel_rfl) ?_
  have hN : ∀ e w, (m35_10 R K1 (e 0) (e 7) (e 17) (e 18) w) → (inBlockE 1 (thenE (W35 k35_10 Q) Q)) .normal e w := fun e w h => block_N (hN e w h)
  have hR : hR35 R (inBlockE 1 (thenE (W35 k35_10 Q) Q)) := fun e w h => block_R (hR e w h)
  refine seA ?_
  exact rgA 6 (fun e w => m35_11 R K1 (e 7) (e 8) (e 9) (e 10) (e 17) (e 18) w) h fun e w h => then_N (s35_11 (R := R) (Q := (inBlockE 1 (thenE (W35 k35_10 Q) Q))) hN hR e w h)
theorem s35_5 (hR : hR35 R Q) (e : Env) (w : World) (h : m35_5 R (e 4) (e 5) (e 6) w) : W35 k35_5 Q e w := by
  exact reA (hR _ _ h)
theorem s35_4 (hR : hR35 R Q) (e : Env) (w : World) (h : m35_4 R (e 0) (e 7) w) : W35 k35_4 Q e w := by
  refine seA ?_
  exact rgA 12 (fun e w => m35_5 R (e 4) (e 5) (e 6) w) h fun e w h => then_N (s35_5 hR e w h)
theorem s35_8 {K1 : (Value × Value × Value) → World → Prop} (hN : ∀ e w, (K1 ((e 0), (e 7), (e 18)) w) → Q .normal e w) (hR : hR35 R Q) (hX0 : ∀ e w, (m35_4 R (e 0) (e 7) w) → Q (.exit 0) e w) (e : Env) (w : World) (h : m35_8 R K1 (e 0) (e 7) (e 17) (e 18) (e 19) w) : W35 k35_8 Q e w := by
  refine seA ?_
  have hN : ∀ e w, (m35_9 R K1 (e 0) (e 7) (e 17) (e 18) w) → (thenE (W35 k35_9 Q) Q) .normal e w := fun e w h => then_N (s35_9 hN hR e w h)
  have hX0 : ∀ e w, (m35_4 R (e 0) (e 7) w) → (thenE (W35 k35_9 Q) Q) (.exit 0) e w := fun e w h => then_X (hX0 e w h)
  refine coA (Operand.tmp 19) h (fun h1 => ?_) (fun h1 => ?_)
  · exact skA (hN _ _ h1)
  · exact exA 0 (hX0 _ _ h1)
theorem s35_7 {K1 : (Value × Value × Value) → World → Prop} (hN : ∀ e w, (K1 ((e 0), (e 7), (e 18)) w) → Q .normal e w) (hR : hR35 R Q) (hX0 : ∀ e w, (m35_4 R (e 0) (e 7) w) → Q (.exit 0) e w) (e : Env) (w : World) (h : m35_7 R K1 (e 0) (e 7) (e 17) (e 18) w) : W35 k35_7 Q e w := by
  refine seA ?_
  exact rgA 5 (fun e w => m35_8 R K1 (e 0) (e 7) (e 17) (e 18) (e 19) w) h fun e w h => then_N (s35_8 hN hR hX0 e w h)
theorem s35_6 (hN : ∀ e w, (m35_4 R (e 0) (e 7) w) → Q .normal e w) (hR : hR35 R Q) (e : Env) (w : World) (h : m35_6 R (e 0) (e 7) (e 17) (e 18) w) : W35 k35_6 Q e w := by
  refine block_ok 0 (by kernel_rfl) ?_
  have hX0 : ∀ e w, (m35_4 R (e 0) (e 7) w) → (inBlockE 0 Q) (.exit 0) e w := fun e w h => inBlock_same (Q := Q) 0 (hN e w h)
  have hR : hR35 R (inBlockE 0 Q) := fun e w h => block_R (hR e w h)
  refine loop_ok' (fun (e : Env) => (e 0, e 7, e 18)) [17] (by kernel_rfl) (by kernel_rfl) h (fun K e' w' hk h' => ?_)
  have r17 : e' 17 = e 17 := hk 17 (by decide)
  have hR : hR35 R (thenE (fun (e : Env) w => K ((e 0), (e 7), (e 18)) w) (inBlockE 0 Q)) := fun e w h => then_R (hR e w h)
  have hX0 : ∀ e w, (m35_4 R (e 0) (e 7) w) → (thenE (fun (e : Env) w => K ((e 0), (e 7), (e 18)) w) (inBlockE 0 Q)) (.exit 0) e w := fun e w h => then_X (hX0 e w h)
  exact s35_7 (K1 := K) (fun _ _ h => then_N h) hR hX0 e' w' (by rw [r17]; exact h')
theorem s35_3 (hR : hR35 R Q) (e : Env) (w : World) (h : m35_3 R (e 0) (e 1) (e 7) w) : W35 k35_3 Q e w := by
  refine seA ?_
  have hN : ∀ e w, (m35_4 R (e 0) (e 7) w) → (thenE (W35 k35_4 Q) Q) .normal e w := fun e w h => then_N (s35_4 hR e w h)
  have hR : hR35 R (thenE (W35 k35_4 Q) Q) := fun e w h => then_R (hR e w h)
  refine seA ?_
  exact rgA 4 (fun e w => m35_6 R (e 0) (e 7) (e 17) (e 18) w) h fun e w h => then_N (s35_6 hN hR e w h)
theorem s35_2 (hR : hR35 R Q) (e : Env) (w : World) (h : m35_2 R (e 0) (e 1) w) : W35 k35_2 Q e w := by
  refine seA ?_
  exact rgA 3 (fun e w => m35_3 R (e 0) (e 1) (e 7) w) h fun e w h => then_N (s35_3 hR e w h)
theorem s35_16 (hN : ∀ e w, (m35_2 R (e 0) (e 1) w) → Q .normal e w) (hR : hR35 R Q) (e : Env) (w : World) (h : m35_16 R (e 0) (e 1) (e 16) w) : W35 k35_16 Q e w := by
  refine coA (Operand.tmp 16) h (fun h1 => ?_) (fun h1 => ?_)
  · refine seA ?_
    exact rgA 2 (fun e w => m35_17 R (e 4) (e 5) (e 6) w) h1 fun e w h => then_N (s35_17 hR e w h)
  · exact skA (hN _ _ h1)
theorem s35_1 (hR : hR35 R Q) (e : Env) (w : World) (h : m35_1 R (e 0) (e 1) w) : W35 k35_1 Q e w := by
  refine seA ?_
  have hN : ∀ e w, (m35_2 R (e 0) (e 1) w) → (thenE (W35 k35_2 Q) Q) .normal e w := fun e w h => then_N (s35_2 hR e w h)
  have hR : hR35 R (thenE (W35 k35_2 Q) Q) := fun e w h => then_R (hR e w h)
  refine seA ?_
  exact rgA 1 (fun e w => m35_16 R (e 0) (e 1) (e 16) w) h fun e w h => then_N (s35_16 hN hR e w h)
theorem s35_0 (hR : hR35 R Q) (e : Env) (w : World) (h : m35_0 R (e 0) (e 1) w) : W35 k35_0 Q e w := by
  refine seA ?_
  exact rgA 0 (fun e w => m35_1 R (e 0) (e 1) w) h fun e w h => then_N (s35_1 hR e w h)
abbrev m35 (R : VP) (s0 n1 : Value) (w : World) : Prop := m35_0 R s0 n1 w
theorem s35 (s0 n1 : Value) {R : VP} {w : World} (h : m35 R s0 n1 w) :
    Calls Try.prog 35 #[s0, n1] w fun e w' => ∃ v, e = .returned v ∧ R v w' :=
  calls_of_cwp (st := (fun i => 0)) (c := k35_0) (by kernel_rfl) Try.func35 (by kernel_rfl) (Nat.le_of_ble_eq_true (by kernel_rfl)) (by kernel_rfl)
    (s35_0 (R := R) (Q := endE Try.prog Try.f35 R) (fun e w h => kcast (by kernel_rfl) h) (argsE #[s0, n1]) w (kcast (by kernel_rfl) h))
def m36_10 (R : VP) (t2 t3 : Value) (w : World) : Prop :=
  valS Try.prog (loadC 65 t2) w fun r0 =>
  R (Value.tuple #[r0, t3]) w
def m36_8 (R : VP) (t2 t3 : Value) (w : World) : Prop :=
  valS Try.prog (loadC 65 t2) w fun r0 =>
  R (Value.tuple #[r0, t3]) w
def m36_6 (R : VP) (t2 t3 : Value) (w : World) : Prop :=
  valS Try.prog (loadC 65 t2) w fun r0 =>
  R (Value.tuple #[r0, t3]) w
def m36_5 (R : VP) (t2 a7 : Value) (w : World) : Prop :=
  valP Try.prog (Instr.loadAt 65 a7) w fun t48 w =>
  unitP Try.prog (Instr.storeAt 65 t2 t48) w fun _ w =>
  m36_6 R t2 (vi 0) w
def m36_7 (R : VP) (t2 a7 t46 : Value) (w : World) : Prop :=
  condP t46
  (valP Try.prog (Instr.build 65 #[]) w fun t47 w =>
  unitP Try.prog (Instr.storeAt 65 t2 t47) w fun _ w =>
  m36_8 R t2 (vi 2) w)
  (m36_5 R t2 a7 w)
def m36_4 (R : VP) (t2 a7 : Value) (w : World) : Prop :=
  valP Try.prog (Instr.loadAt 65 a7) w fun t44 w =>
  callP Try.prog (fnV 42) #[t44] w fun t45 w =>
  valP Try.prog (binS BinOp.neq 35 (tm 45) (ci 0) t45 (vi 0)) w fun t46 w =>
  m36_7 R t2 a7 t46 w
def m36_3 (R : VP) (t2 l4 : Value) (w : World) : Prop :=
  anyDraw w fun w =>
  heldP w fun J =>
  valJ Try.prog J (Instr.indexAt 51 l4 (vi 0)) fun t22 =>
  valJ Try.prog J (Instr.loadAt 3 t22) fun t23 =>
  valJ Try.prog J (Instr.indexAt 51 l4 (vi 1)) fun t25 =>
  valJ Try.prog J (Instr.loadAt 3 t25) fun t26 =>
  valJ Try.prog J (Instr.indexAt 51 l4 (vi 2)) fun t28 =>
  valJ Try.prog J (Instr.loadAt 3 t28) fun t29 =>
  valJ Try.prog J (Instr.indexAt 51 l4 (vi 3)) fun t31 =>
  valJ Try.prog J (Instr.loadAt 3 t31) fun t32 =>
  valJ Try.prog J (Instr.sliceAt 51 l4 (some (vi 4)) (some (vi 8)) none) fun t34 =>
  valJ Try.prog J (Instr.arrayAt 63 t34) fun t35 =>
  valJ Try.prog J (Instr.loadAt 63 t35) fun t36 =>
  valJ Try.prog J (Instr.indexAt 51 l4 (vi 8)) fun t38 =>
  valJ Try.prog J (Instr.loadAt 3 t38) fun t39 =>
  valJ Try.prog J (Instr.indexAt 51 l4 (vi 9)) fun t41 =>
  valJ Try.prog J (Instr.loadAt 3 t41) fun t42 =>
  valJ Try.prog J (Instr.build 65 #[(0, t23), (1, t26), (2, t29), (3, t32), (4, t36), (5, t39), (6, t42)]) fun t43 =>
  valP Try.prog (Instr.alloc 65 true (.tuple #[])) w fun a7 w =>
  stayP J w
  (unitP Try.prog (Instr.storeAt 65 a7 t43) w fun _ w =>
  stayP J w
  (m36_4 R t2 a7 w))
def m36_9 (R : VP) (t2 l4 t19 : Value) (w : World) : Prop :=
  condP t19
  (valP Try.prog (Instr.build 65 #[]) w fun t20 w =>
  unitP Try.prog (Instr.storeAt 65 t2 t20) w fun _ w =>
  m36_10 R t2 (vi 2) w)
  (m36_3 R t2 l4 w)
def m36_2 (R : VP) (t2 l4 rest5 e6 : Value) (w : World) : Prop :=
  valP Try.prog (binS BinOp.neq 35 (tm 14) (ci 0) e6 (vi 0)) w fun t15 w =>
  condP t15
  (pickP t15 (Value.bool true) undef fun t19 =>
  m36_9 R t2 l4 t19 w)
  (valP Try.prog (binS BinOp.neq 9 (tm 17) (Operand.const (Value.string ⟨#[]⟩)) rest5 (Value.string ⟨#[]⟩)) w fun t18 w =>
  pickP t15 (Value.bool true) t18 fun t19 =>
  m36_9 R t2 l4 t19 w)
def m36_1 (R : VP) (s0 t2 : Value) (w : World) : Prop :=
  callP Try.prog (fnV 35) #[s0, (vi 10)] w fun t10 w =>
  valP Try.prog (Instr.extract t10 0) w fun t11 w =>
  valP Try.prog (Instr.extract t10 1) w fun t12 w =>
  valP Try.prog (Instr.extract t10 2) w fun t13 w =>
  m36_2 R t2 t11 t12 t13 w
def m36_0 (R : VP) (s0 : Value) (w : World) : Prop :=
  valP Try.prog (Instr.alloc 65 true (.tuple #[])) w fun t2 w =>
  m36_1 R s0 t2 w
abbrev W36 := cwp Try.prog (fun i => 0)
noncomputable def k36_0 := bodyOf Try.f36
noncomputable def k36_1 := c2 k36_0
noncomputable def k36_2 := c2 k36_1
noncomputable def k36_3 := c2 k36_2
noncomputable def k36_4 := c2 k36_3
noncomputable def k36_5 := c2 k36_4
noncomputable def k36_6 := c2 k36_5
noncomputable def k36_7 := c2 (c1 k36_4)
noncomputable def k36_8 := c2 (c1 k36_7)
noncomputable def k36_9 := c2 (c1 k36_2)
noncomputable def k36_10 := c2 (c1 k36_9)
abbrev hR36 (R : VP) (Q : EQ) : Prop := ∀ e w, (valS Try.prog (loadC 65 (e 2)) w fun r0 =>
R (Value.tuple #[r0, (e 3)]) w) → Q .ret e w
theorem s36_10 (hR : hR36 R Q) (e : Env) (w : World) (h : m36_10 R (e 2) (e 3) w) : W36 k36_10 Q e w := by
  exact reA (hR _ _ h)
theorem s36_8 (hR : hR36 R Q) (e : Env) (w : World) (h : m36_8 R (e 2) (e 3) w) : W36 k36_8 Q e w := by
  exact reA (hR _ _ h)
theorem s36_6 (hR : hR36 R Q) (e : Env) (w : World) (h : m36_6 R (e 2) (e 3) w) : W36 k36_6 Q e w := by
  exact reA (hR _ _ h)
theorem s36_5 (hR : hR36 R Q) (e : Env) (w : World) (h : m36_5 R (e 2) (e 7) w) : W36 k36_5 Q e w := by
  refine seA ?_
  exact rgA 7 (fun e w => m36_6 R (e 2) (e 3) w) h fun e w h => then_N (s36_6 hR e w h)
theorem s36_7 (hN : ∀ e w, (m36_5 R (e 2) (e 7) w) → Q .normal e w) (hR : hR36 R Q) (e : Env) (w : World) (h : m36_7 R (e 2) (e 7) (e 46) w) : W36 k36_7 Q e w := by
  refine coA (Operand.tmp 46) h (fun h1 => ?_) (fun h1 => ?_)
  · refine seA ?_
    exact rgA 6 (fun e w => m36_8 R (e 2) (e 3) w) h1 fun e w h => then_N (s36_8 hR e w h)
  · exact skA (hN _ _ h1)
theorem s36_4 (hR : hR36 R Q) (e : Env) (w : World) (h : m36_4 R (e 2) (e 7) w) : W36 k36_4 Q e w := by
  refine seA ?_
  have hN : ∀ e w, (m36_5 R (e 2) (e 7) w) → (thenE (W36 k36_5 Q) Q) .normal e w := fun e w h => then_N (s36_5 hR e w h)
  have hR : ∀ e w, (valS Try.prog (loadC 65 (e 2)) w fun r0 =>
  R (Value.tuple #[r0, (e 3)]) w) → (thenE (W36 k36_5 Q) Q) .ret e w := fun e w h => then_R (hR e w h)
  refine seA ?_
  exact rgA 5 (fun e w => m36_7 R (e 2) (e 7) (e 46) w) h fun e w h => then_N (s36_7 hN hR e w h)
theorem s36_3 (hR : hR36 R Q) (e : Env) (w : World) (h : m36_3 R (e 2) (e 4) w) : W36 k36_3 Q e w := by
  refine seA ?_
  have hN : ∀ e w, (m36_4 R (e 2) (e 7) w) → (thenE (W36 k36_4 Q) Q) .normal e w := fun e w h => then_N (s36_4 hR e w h)
  exact treeJ_ok 4 25 (bt 25 0) (.take 0 (bt 25 1) (.take 1 (bt 25 3) (.take 2 (bt 25 7) (.take 3 (bt 25 15) (.take 4 (bt 25 31) (.take 5 (bt 25 63) (.take 6 (bt 25 127) (.take 7 (bt 25 255) (.take 8 (bt 25 511) (.take 9 (bt 25 1023) (.take 10 (bt 25 2047) (.take 11 (bt 25 4095) (.take 12 (bt 25 8191) (.take 13 (bt 25 16383) (.take 14 (bt 25 32767) (.take 15 (bt 25 65535) (.take 16 (bt 25 131071) (.take 17 (bt 25 262143) (.take 18 (bt 25 524287) (.take 19 (bt 25 1048575) (.take 20 (bt 25 2097151) (.take 21 (bt 25 4194303) (.take 22 (bt 25 8388607) (.alt 23 (bt 25 16777215) (.alt 24 (bt 25 33554431) .done .stop) .stop)))))))))))))))))))))))) (fun e w => m36_4 R (e 2) (e 7) w) (by kernel_rfl) (by kernel_rfl) (by kernel_rfl) (by kernel_rfl) (by kernel_rfl) (by kernel_rfl) (kcast (by kernel_rfl) h) hN (by kernel_rfl)
theorem s36_9 (hN : ∀ e w, (m36_3 R (e 2) (e 4) w) → Q .normal e w) (hR : hR36 R Q) (e : Env) (w : World) (h : m36_9 R (e 2) (e 4) (e 19) w) : W36 k36_9 Q e w := by
  refine coA (Operand.tmp 19) h (fun h1 => ?_) (fun h1 => ?_)
  · refine seA ?_
    exact rgA 3 (fun e w => m36_10 R (e 2) (e 3) w) h1 fun e w h => then_N (s36_10 hR e w h)
  · exact skA (hN _ _ h1)
theorem s36_2 (hR : hR36 R Q) (e : Env) (w : World) (h : m36_2 R (e 2) (e 4) (e 5) (e 6) w) : W36 k36_2 Q e w := by
  refine seA ?_
  have hN : ∀ e w, (m36_3 R (e 2) (e 4) w) → (thenE (W36 k36_3 Q) Q) .normal e w := fun e w h => then_N (s36_3 hR e w h)
  have hR : ∀ e w, (valS Try.prog (loadC 65 (e 2)) w fun r0 =>
  R (Value.tuple #[r0, (e 3)]) w) → (thenE (W36 k36_3 Q) Q) .ret e w := fun e w h => then_R (hR e w h)
  refine seA ?_
  exact rgA 2 (fun e w => m36_9 R (e 2) (e 4) (e 19) w) h fun e w h => then_N (s36_9 hN hR e w h)
theorem s36_1 (hR : hR36 R Q) (e : Env) (w : World) (h : m36_1 R (e 0) (e 2) w) : W36 k36_1 Q e w := by
  refine seA ?_
  exact rgA 1 (fun e w => m36_2 R (e 2) (e 4) (e 5) (e 6) w) h fun e w h => then_N (s36_2 hR e w h)
theorem s36_0 (hR : hR36 R Q) (e : Env) (w : World) (h : m36_0 R (e 0) w) : W36 k36_0 Q e w := by
  refine seA ?_
  exact rgA 0 (fun e w => m36_1 R (e 0) (e 2) w) h fun e w h => then_N (s36_1 hR e w h)
abbrev m36 (R : VP) (s0 : Value) (w : World) : Prop := m36_0 R s0 w
theorem s36 (s0 : Value) {R : VP} {w : World} (h : m36 R s0 w) :
    Calls Try.prog 36 #[s0] w fun e w' => ∃ v, e = .returned v ∧ R v w' :=
  calls_of_cwp (st := (fun i => 0)) (c := k36_0) (by kernel_rfl) Try.func36 (by kernel_rfl) (Nat.le_of_ble_eq_true (by kernel_rfl)) (by kernel_rfl)
    (s36_0 (R := R) (Q := endE Try.prog Try.f36 R) (fun e w h => kcast (by kernel_rfl) h) (argsE #[s0]) w (kcast (by kernel_rfl) h))
end Go.Proofs.Ytnhgdngbdoifnaa.M
namespace Go.Proofs.Ytnhgdngbdoifnaa.M
open Go.Proofs.Ytnhgdngbdoifnaa.F Go.RowKit
set_option linter.unusedVariables false
set_option linter.unusedSimpArgs false
set_option maxRecDepth 100000
set_option maxHeartbeats 2000000
attribute [local irreducible] Res.cells Res.row Res.map Res.any World.cell? World.frozen? Instr.fieldAt Instr.loadAt Instr.storeAt Instr.indexAt Instr.lookup Instr.mapUpdate Instr.box Instr.build Instr.buildSlice Instr.extract Instr.alloc Instr.field Instr.index Instr.sliceAt Instr.makeSlice Instr.makeMap Instr.makeFunc binS Op.unary Sem.run
theorem takeS_put {n : Int} (h : I64 n) (r : ByteArray) : takeS (putS n ++ r) = some (n, r) := by
  rw [takeS_L, bytesN_append, bytesN_putS, takeL_put n _ h.1 h.2]
  simp only [Option.map_some]
  rw [strN_bytesN]
theorem ba_nil (a : ByteArray) : a ++ ⟨#[]⟩ = a := by apply ByteArray.ext; rw [ByteArray.data_append]; simp
theorem nil_ba (a : ByteArray) : (⟨#[]⟩ : ByteArray) ++ a = a := by apply ByteArray.ext; rw [ByteArray.data_append]; simp
theorem ba_assoc (a b c : ByteArray) : a ++ b ++ c = a ++ (b ++ c) := by apply ByteArray.ext; simp only [ByteArray.data_append, Array.append_assoc]
theorem ixv63 {a : Ag} {k : Nat} (h : k < 4) (w : World) : (Instr.index 63 (.agg #[.int .i64 a.h0, .int .i64 a.h1, .int .i64 a.h2, .int .i64 a.h3]) (.int .i64 (k : Int))).run Try.prog w = .ok (.int .i64 (hk a k)) w := by
  rcases four h with rfl | rfl | rfl | rfl <;> (unfold Instr.index; simp [go_sem, hk])
theorem hs_mono {a : Ag} (h : ∀ j, j < 4 → 0 ≤ hk a j) : ∀ {i j : Nat}, i ≤ j → j ≤ 4 → hs a i ≤ hs a j := by
  intro i j hij hj
  induction j with
  | zero => obtain rfl : i = 0 := by omega
            omega
  | succ j ih =>
    rcases Nat.lt_or_ge i (j + 1) with g | g
    · have := ih (by omega) (by omega)
      have h2 := h j (by omega)
      have e : hs a (j + 1) = hs a j + hk a j := rfl
      omega
    · obtain rfl : i = j + 1 := by omega
      omega
section
variable {w0 w : World} {F : List Nat} {L : List Res} {r : ByteArray} {xs : List Int}
theorem takeall_ret (hn : xs.length ≤ 64) (hx : ∀ x ∈ xs, I64 x) (hS : St w0 F w L) : Ret Try.prog 35 #[.string (allS xs ++ r), .int .i64 (xs.length : Int)] w fun v w' => ∃ A c, v = .tuple #[.slice A xs.length c, .string r, .int .i64 0] ∧ St w0 F w' (iRow A c xs :: L) := by
  refine s35 _ _ ?_
  unfold m35 m35_0 m35_1
  refine valP_ok (lss_ok _ _ _ _ _ _ _) ?_
  refine cond_df (by omega) ?_
  refine valP_ok (gtr_ok _ _ _ _ _ _ _) ?_
  first | refine pick_dt (by first | assumption | omega) ?_ | refine pick_df (by first | assumption | omega) ?_ | refine pick_t (by first | rfl | assumption) ?_ | refine pick_f (by first | rfl | assumption) ?_ | refine pick_dt rfl ?_ | refine pick_df (not_not_intro rfl) ?_
  unfold m35_16
  refine cond_df (by omega) ?_
  unfold m35_2 m35_3 m35_6
  refine loop_in (fun u w' => ∃ (i : Nat) (A : Option Addr) (c : Nat), u = (.string (allS (xs.drop i) ++ r), .slice A (xs.take i).length c, .int .i64 (i : Int)) ∧ i ≤ xs.length ∧ St w0 F w' (iRow A c (xs.take i) :: L)) (fun u _ => xs.length - (intOf u.2.2).toNat) ⟨0, none, 0, rfl, by omega, hS.row_nil 3 1⟩ ?_
  clear hS
  rintro u w ⟨i, A, c, rfl, hi, hS⟩
  simp only
  have hlen : (xs.take i).length = i := by rw [List.length_take]; omega
  unfold m35_7
  refine valP_ok (lss_ok _ _ _ _ _ _ _) ?_
  unfold m35_8
  refine cond_split (fun h => ?_) (fun h => ?_)
  · have hil : i < xs.length := by omega
    unfold m35_9
    refine callR (by kernel_rfl) (take_ret hS) ?_
    rintro _ w ⟨rfl, hS⟩
    rw [List.drop_eq_getElem_cons hil, allS_cons, ba_assoc]
    unfold tkV
    rw [takeS_put (hx _ (List.getElem_mem hil))]
    simp only
    refine valP_ok (extract_ok _ 0 rfl _) ?_
    refine valP_ok (extract_ok _ 1 rfl _) ?_
    refine valP_ok (extract_ok _ 2 rfl _) ?_
    unfold m35_11
    refine valP_ok (ne35 _ _ _ _ _) ?_
    unfold m35_14
    refine cond_df (by omega) ?_
    unfold m35_12
    refine newslice_ok (bs51_1 rfl _) hS ?_
    intro b31 w hS
    refine append_one1 (enc := iEnc) 0 xs[i] sl51 iEnc_len iEnc_one (by unfold maxLen; omega) (by omega) hS rfl ?_
    intro A' c' w hS
    simp only [List.set_cons_zero] at hS
    unfold m35_13
    unfold m35_10
    refine valP_ok (add_ok _ _ _ (by omega) (by omega) _) ?_
    rw [← List.take_succ_eq_append_getElem hil] at hS ⊢
    exact ⟨⟨i + 1, A', c', rfl, by omega, hS⟩, by simp [intOf]; omega⟩
  · obtain rfl : i = xs.length := by omega
    rw [List.take_length] at hS ⊢
    rw [List.drop_length]
    unfold m35_4 m35_5
    exact ⟨A, c, by rw [show allS [] = (⟨#[]⟩ : ByteArray) from rfl, nil_ba], hS⟩
theorem far_ret {n count : Int} (h : -count ≤ n ∧ n ≤ count) (hc : 0 ≤ count ∧ count ≤ 1099511627776) (hS : St w0 F w L) : Ret Try.prog 52 #[.int .i64 n, .int .i64 count] w fun v w' => v = .tuple #[.int .i64 (absI n), .bool true] ∧ St w0 F w' L := by
  refine s52 _ _ ?_
  unfold m52
  unfold m52_0
  unfold m52_1
  refine valP_ok (neg_run (by omega) (by omega) _) ?_
  refine valP_ok (lss_ok _ _ _ _ _ _ _) ?_
  refine cond_df (by omega) ?_
  refine valP_ok (gtr_ok _ _ _ _ _ _ _) ?_
  first | refine pick_dt (by first | assumption | omega) ?_ | refine pick_df (by first | assumption | omega) ?_ | refine pick_t (by first | rfl | assumption) ?_ | refine pick_f (by first | rfl | assumption) ?_ | refine pick_dt rfl ?_ | refine pick_df (not_not_intro rfl) ?_
  unfold m52_4
  refine cond_df (by omega) ?_
  unfold m52_2
  refine valP_ok (neg_run (by omega) (by omega) _) ?_
  refine builtin_ok (max_run _ _ _) ?_
  unfold m52_3
  have e : max n (-n) = absI n := by unfold absI; split <;> omega
  rw [e]
  exact ⟨rfl, hS⟩
theorem fcheck_ret {a : Ag} (hm : MayA a) (hS : St w0 F w L) : Ret Try.prog 42 #[agv a] w fun v w' => v = .int .i64 0 ∧ St w0 F w' L := by
  obtain ⟨⟨c1, c2, c3⟩, h4, ⟨h5, h6, h7⟩, h8⟩ := (mayA_iff a).1 hm
  have hmo : ∀ {i j : Nat}, i ≤ j → j ≤ 4 → hs a i ≤ hs a j := fun h1 h2 => hs_mono (a := a) (fun j hj => (h4 j hj).1) h1 h2
  have hre : -a.count ≤ a.re ∧ a.re ≤ a.count := by unfold absI at h8; split at h8 <;> split at h8 <;> omega
  have him : -a.count ≤ a.im ∧ a.im ≤ a.count := by unfold absI at h8; split at h8 <;> split at h8 <;> omega
  have hr0 : 0 ≤ absI a.re := by unfold absI; split <;> omega
  have hi0 : 0 ≤ absI a.im := by unfold absI; split <;> omega
  refine s42 _ ?_
  unfold m42
  unfold m42_0
  refine new_ok (bx65 _ _ _ _ _ _ _ _ _ _ _) hS ?_
  intro b1 w hS
  unfold m42_1
  first | refine valP_ok (fa65_0 _ _) ?_ | refine valP_ok (fao65_0 _ _ _) ?_
  first | refine valP_ok (ld3 (hS.cell 0 rfl rfl)) ?_ | refine valP_ok (ld3 (hS.cell 1 rfl rfl)) ?_ | refine valP_ok (ld3 (hS.cell 2 rfl rfl)) ?_ | refine valP_ok (ld3 (hS.cell 3 rfl rfl)) ?_ | refine valP_ok (ld3 (hS.cell 4 rfl rfl)) ?_ | refine valP_ok (ld3 (hS.cell 5 rfl rfl)) ?_ | refine valP_ok (ld3 (hS.cell 6 rfl rfl)) ?_ | refine valP_ok (ld3 (hS.cell 7 rfl rfl)) ?_ | refine valP_ok (ld3 (by assumption)) ?_
  unfold m42_2
  first | refine valP_ok (fa65_0 _ _) ?_ | refine valP_ok (fao65_0 _ _ _) ?_
  first | refine valP_ok (ld3 (hS.cell 0 rfl rfl)) ?_ | refine valP_ok (ld3 (hS.cell 1 rfl rfl)) ?_ | refine valP_ok (ld3 (hS.cell 2 rfl rfl)) ?_ | refine valP_ok (ld3 (hS.cell 3 rfl rfl)) ?_ | refine valP_ok (ld3 (hS.cell 4 rfl rfl)) ?_ | refine valP_ok (ld3 (hS.cell 5 rfl rfl)) ?_ | refine valP_ok (ld3 (hS.cell 6 rfl rfl)) ?_ | refine valP_ok (ld3 (hS.cell 7 rfl rfl)) ?_ | refine valP_ok (ld3 (by assumption)) ?_
  refine valP_ok (geq_ok _ _ _ _ _ _ _) ?_
  refine cond_dt (by omega) ?_
  first | refine valP_ok (fa65_0 _ _) ?_ | refine valP_ok (fao65_0 _ _ _) ?_
  first | refine valP_ok (ld3 (hS.cell 0 rfl rfl)) ?_ | refine valP_ok (ld3 (hS.cell 1 rfl rfl)) ?_ | refine valP_ok (ld3 (hS.cell 2 rfl rfl)) ?_ | refine valP_ok (ld3 (hS.cell 3 rfl rfl)) ?_ | refine valP_ok (ld3 (hS.cell 4 rfl rfl)) ?_ | refine valP_ok (ld3 (hS.cell 5 rfl rfl)) ?_ | refine valP_ok (ld3 (hS.cell 6 rfl rfl)) ?_ | refine valP_ok (ld3 (hS.cell 7 rfl rfl)) ?_ | refine valP_ok (ld3 (by assumption)) ?_
  refine valP_ok (leq_ok _ _ _ _ _ _ _) ?_
  first | refine pick_dt (by first | assumption | omega) ?_ | refine pick_df (by first | assumption | omega) ?_ | refine pick_t (by first | rfl | assumption) ?_ | refine pick_f (by first | rfl | assumption) ?_ | refine pick_dt rfl ?_ | refine pick_df (not_not_intro rfl) ?_
  refine cond_dt (by omega) ?_
  first | refine valP_ok (fa65_2 _ _) ?_ | refine valP_ok (fao65_2 _ _ _) ?_
  first | refine valP_ok (ld3 (hS.cell 0 rfl rfl)) ?_ | refine valP_ok (ld3 (hS.cell 1 rfl rfl)) ?_ | refine valP_ok (ld3 (hS.cell 2 rfl rfl)) ?_ | refine valP_ok (ld3 (hS.cell 3 rfl rfl)) ?_ | refine valP_ok (ld3 (hS.cell 4 rfl rfl)) ?_ | refine valP_ok (ld3 (hS.cell 5 rfl rfl)) ?_ | refine valP_ok (ld3 (hS.cell 6 rfl rfl)) ?_ | refine valP_ok (ld3 (hS.cell 7 rfl rfl)) ?_ | refine valP_ok (ld3 (by assumption)) ?_
  first | refine valP_ok (fa65_3 _ _) ?_ | refine valP_ok (fao65_3 _ _ _) ?_
  first | refine valP_ok (ld3 (hS.cell 0 rfl rfl)) ?_ | refine valP_ok (ld3 (hS.cell 1 rfl rfl)) ?_ | refine valP_ok (ld3 (hS.cell 2 rfl rfl)) ?_ | refine valP_ok (ld3 (hS.cell 3 rfl rfl)) ?_ | refine valP_ok (ld3 (hS.cell 4 rfl rfl)) ?_ | refine valP_ok (ld3 (hS.cell 5 rfl rfl)) ?_ | refine valP_ok (ld3 (hS.cell 6 rfl rfl)) ?_ | refine valP_ok (ld3 (hS.cell 7 rfl rfl)) ?_ | refine valP_ok (ld3 (by assumption)) ?_
  refine valP_ok (leq_ok _ _ _ _ _ _ _) ?_
  first | refine pick_dt (by first | assumption | omega) ?_ | refine pick_df (by first | assumption | omega) ?_ | refine pick_t (by first | rfl | assumption) ?_ | refine pick_f (by first | rfl | assumption) ?_ | refine pick_dt rfl ?_ | refine pick_df (not_not_intro rfl) ?_
  rw [decide_eq_true c3]
  unfold m42_3
  first | refine valP_ok (fa65_4 _ _) ?_ | refine valP_ok (fao65_4 _ _ _) ?_
  refine valP_ok (ld63 (hS.cell 0 rfl (i := 4) rfl) (hS.cell 0 rfl (i := 5) rfl) (hS.cell 0 rfl (i := 6) rfl) (hS.cell 0 rfl (i := 7) rfl)) ?_
  unfold m42_14
  refine loop_in (fun u w' => ∃ k : Nat, u = (.int .i64 (a.count - hs a k), .bool true, .int .i64 (k : Int)) ∧ k ≤ 4 ∧ St w0 F w' (Res.cells b1 65 (encAg a) :: L)) (fun u _ => 4 - (intOf u.2.2).toNat) ⟨0, by simp [hs], by omega, hS⟩ ?_
  clear hS
  rintro u w ⟨k, rfl, hk4, hS⟩
  simp only
  have q1 := hmo (i := k) (j := 4) hk4 (by omega)
  have q2 := hmo (i := 0) (j := k) (by omega) hk4
  have q3 : hs a 0 = 0 := rfl
  unfold m42_15
  refine valP_ok (lss_ok _ _ _ _ _ _ _) ?_
  unfold m42_16
  refine cond_split (fun h => ?_) (fun h => ?_)
  · have hkl : k < 4 := by omega
    have q4 := hmo (i := k + 1) (j := 4) (by omega) (by omega)
    have e : hs a (k + 1) = hs a k + hk a k := rfl
    have q5 := h4 k hkl
    unfold m42_17
    refine valP_ok (ixv63 (a := a) hkl _) ?_
    unfold m42_19
    refine cond_t rfl ?_
    refine valP_ok (geq_ok _ _ _ _ _ _ _) ?_
    first | refine pick_dt (by first | assumption | omega) ?_ | refine pick_df (by first | assumption | omega) ?_ | refine pick_t (by first | rfl | assumption) ?_ | refine pick_f (by first | rfl | assumption) ?_ | refine pick_dt rfl ?_ | refine pick_df (not_not_intro rfl) ?_
    refine cond_dt (by omega) ?_
    refine valP_ok (leq_ok _ _ _ _ _ _ _) ?_
    first | refine pick_dt (by first | assumption | omega) ?_ | refine pick_df (by first | assumption | omega) ?_ | refine pick_t (by first | rfl | assumption) ?_ | refine pick_f (by first | rfl | assumption) ?_ | refine pick_dt rfl ?_ | refine pick_df (not_not_intro rfl) ?_
    rw [show decide (hk a k ≤ a.count - hs a k) = true from decide_eq_true (by omega)]
    unfold m42_20
    refine valP_ok (sub_ok _ _ _ (by omega) (by omega) _) ?_
    unfold m42_18
    refine valP_ok (add_ok _ _ _ (by omega) (by omega) _) ?_
    exact ⟨⟨k + 1, by rw [e]; simp only [Int.sub_sub]; rfl, by omega, hS⟩, by simp [intOf]; omega⟩
  · obtain rfl : k = 4 := by omega
    unfold m42_4
    first | refine valP_ok (not_ok _ _) ?_ | refine valP_ok (notb_ok _ _) ?_
    refine cond_f rfl ?_
    refine valP_ok (ne3 _ _ _ _ _) ?_
    first | refine pick_dt (by first | assumption | omega) ?_ | refine pick_df (by first | assumption | omega) ?_ | refine pick_t (by first | rfl | assumption) ?_ | refine pick_f (by first | rfl | assumption) ?_ | refine pick_dt rfl ?_ | refine pick_df (not_not_intro rfl) ?_
    unfold m42_12
    refine cond_df (by omega) ?_
    unfold m42_5
    first | refine valP_ok (fa65_5 _ _) ?_ | refine valP_ok (fao65_5 _ _ _) ?_
    first | refine valP_ok (ld3 (hS.cell 0 rfl rfl)) ?_ | refine valP_ok (ld3 (hS.cell 1 rfl rfl)) ?_ | refine valP_ok (ld3 (hS.cell 2 rfl rfl)) ?_ | refine valP_ok (ld3 (hS.cell 3 rfl rfl)) ?_ | refine valP_ok (ld3 (hS.cell 4 rfl rfl)) ?_ | refine valP_ok (ld3 (hS.cell 5 rfl rfl)) ?_ | refine valP_ok (ld3 (hS.cell 6 rfl rfl)) ?_ | refine valP_ok (ld3 (hS.cell 7 rfl rfl)) ?_ | refine valP_ok (ld3 (by assumption)) ?_
    first | refine valP_ok (fa65_0 _ _) ?_ | refine valP_ok (fao65_0 _ _ _) ?_
    first | refine valP_ok (ld3 (hS.cell 0 rfl rfl)) ?_ | refine valP_ok (ld3 (hS.cell 1 rfl rfl)) ?_ | refine valP_ok (ld3 (hS.cell 2 rfl rfl)) ?_ | refine valP_ok (ld3 (hS.cell 3 rfl rfl)) ?_ | refine valP_ok (ld3 (hS.cell 4 rfl rfl)) ?_ | refine valP_ok (ld3 (hS.cell 5 rfl rfl)) ?_ | refine valP_ok (ld3 (hS.cell 6 rfl rfl)) ?_ | refine valP_ok (ld3 (hS.cell 7 rfl rfl)) ?_ | refine valP_ok (ld3 (by assumption)) ?_
    refine callR (by kernel_rfl) (far_ret hre (by omega) hS) ?_
    rintro _ w ⟨rfl, hS⟩
    refine valP_ok (extract_ok _ 0 rfl _) ?_
    refine valP_ok (extract_ok _ 1 rfl _) ?_
    unfold m42_6
    first | refine valP_ok (fa65_6 _ _) ?_ | refine valP_ok (fao65_6 _ _ _) ?_
    first | refine valP_ok (ld3 (hS.cell 0 rfl rfl)) ?_ | refine valP_ok (ld3 (hS.cell 1 rfl rfl)) ?_ | refine valP_ok (ld3 (hS.cell 2 rfl rfl)) ?_ | refine valP_ok (ld3 (hS.cell 3 rfl rfl)) ?_ | refine valP_ok (ld3 (hS.cell 4 rfl rfl)) ?_ | refine valP_ok (ld3 (hS.cell 5 rfl rfl)) ?_ | refine valP_ok (ld3 (hS.cell 6 rfl rfl)) ?_ | refine valP_ok (ld3 (hS.cell 7 rfl rfl)) ?_ | refine valP_ok (ld3 (by assumption)) ?_
    first | refine valP_ok (fa65_0 _ _) ?_ | refine valP_ok (fao65_0 _ _ _) ?_
    first | refine valP_ok (ld3 (hS.cell 0 rfl rfl)) ?_ | refine valP_ok (ld3 (hS.cell 1 rfl rfl)) ?_ | refine valP_ok (ld3 (hS.cell 2 rfl rfl)) ?_ | refine valP_ok (ld3 (hS.cell 3 rfl rfl)) ?_ | refine valP_ok (ld3 (hS.cell 4 rfl rfl)) ?_ | refine valP_ok (ld3 (hS.cell 5 rfl rfl)) ?_ | refine valP_ok (ld3 (hS.cell 6 rfl rfl)) ?_ | refine valP_ok (ld3 (hS.cell 7 rfl rfl)) ?_ | refine valP_ok (ld3 (by assumption)) ?_
    refine callR (by kernel_rfl) (far_ret him (by omega) hS) ?_
    rintro _ w ⟨rfl, hS⟩
    refine valP_ok (extract_ok _ 0 rfl _) ?_
    refine valP_ok (extract_ok _ 1 rfl _) ?_
    unfold m42_7
    first | refine valP_ok (not_ok _ _) ?_ | refine valP_ok (notb_ok _ _) ?_
    refine cond_f rfl ?_
    first | refine valP_ok (not_ok _ _) ?_ | refine valP_ok (notb_ok _ _) ?_
    first | refine pick_dt (by first | assumption | omega) ?_ | refine pick_df (by first | assumption | omega) ?_ | refine pick_t (by first | rfl | assumption) ?_ | refine pick_f (by first | rfl | assumption) ?_ | refine pick_dt rfl ?_ | refine pick_df (not_not_intro rfl) ?_
    refine cond_f rfl ?_
    refine valP_ok (add_ok _ _ _ (by omega) (by omega) _) ?_
    first | refine valP_ok (fa65_0 _ _) ?_ | refine valP_ok (fao65_0 _ _ _) ?_
    first | refine valP_ok (ld3 (hS.cell 0 rfl rfl)) ?_ | refine valP_ok (ld3 (hS.cell 1 rfl rfl)) ?_ | refine valP_ok (ld3 (hS.cell 2 rfl rfl)) ?_ | refine valP_ok (ld3 (hS.cell 3 rfl rfl)) ?_ | refine valP_ok (ld3 (hS.cell 4 rfl rfl)) ?_ | refine valP_ok (ld3 (hS.cell 5 rfl rfl)) ?_ | refine valP_ok (ld3 (hS.cell 6 rfl rfl)) ?_ | refine valP_ok (ld3 (hS.cell 7 rfl rfl)) ?_ | refine valP_ok (ld3 (by assumption)) ?_
    refine valP_ok (gtr_ok _ _ _ _ _ _ _) ?_
    first | refine pick_dt (by first | assumption | omega) ?_ | refine pick_df (by first | assumption | omega) ?_ | refine pick_t (by first | rfl | assumption) ?_ | refine pick_f (by first | rfl | assumption) ?_ | refine pick_dt rfl ?_ | refine pick_df (not_not_intro rfl) ?_
    unfold m42_10
    refine cond_df (by omega) ?_
    unfold m42_8 m42_9
    exact ⟨rfl, hS.tail⟩
theorem arr63 {g o c : Nat} (w : World) : (Instr.arrayAt 63 (.slice (some ⟨g, o, none⟩) 4 c)).run Try.prog w = .ok (.pointer (some ⟨g, o, none⟩)) w := by
  simp [go_sem, Instr.arrayAt]
theorem sl51_4 {g c : Nat} (h : 10 ≤ c) (w : World) : (Instr.sliceAt 51 (.slice (some ⟨g, 0, none⟩) 10 c) (some (.int .i64 4)) (some (.int .i64 8)) none).run Try.prog w = .ok (.slice (some ⟨g, 4, none⟩) 4 (c - 4)) w := by
  have h1 : ¬ (c : Int) < 8 := by omega
  have h2 : ¬ c = 4 := by omega
  simp [go_sem, h1, h2, Addr.add]
theorem decode_ret {a : Ag} (hm : MayA a) (ha : AgOk a) (hS : St w0 F w L) : Ret Try.prog 36 #[.string (encA a)] w fun v w' => v = .tuple #[agv a, .int .i64 0] ∧ St w0 F w' L := by
  refine s36 _ ?_
  unfold m36
  unfold m36_0
  refine new_ok (al65 _) hS ?_
  intro b2 w hS
  unfold m36_1
  have e : encA a = allS (agI a) ++ ⟨#[]⟩ := by unfold encA; rw [if_pos hm, ba_nil]
  rw [e]
  refine callR (by kernel_rfl) (takeall_ret (xs := agI a) (r := ⟨#[]⟩) (by simp) ha hS) ?_
  rintro _ w ⟨A, c, rfl, hS⟩
  refine valP_ok (extract_ok _ 0 rfl _) ?_
  refine valP_ok (extract_ok _ 1 rfl _) ?_
  refine valP_ok (extract_ok _ 2 rfl _) ?_
  unfold m36_2
  refine valP_ok (ne35 _ _ _ _ _) ?_
  refine cond_df (by omega) ?_
  refine valP_ok (ne9 _ _ _ _ _) ?_
  first | refine pick_dt (by first | assumption | omega) ?_ | refine pick_df (by first | assumption | omega) ?_ | refine pick_t (by first | rfl | assumption) ?_ | refine pick_f (by first | rfl | assumption) ?_ | refine pick_dt rfl ?_ | refine pick_df (not_not_intro rfl) ?_
  unfold m36_9
  refine cond_f (by first | rfl | simp) ?_
  unfold m36_3
  refine drawn_ok hS ?_
  intro w hS
  have hcap := (hS.row_max 0 rfl).1
  obtain ⟨g, rfl⟩ := row_some (hS.own_row 0 rfl) (by simp)
  have p : ∀ w, Hs w0 F (iRow (some ⟨g, 0, none⟩) c (agI a) :: Res.cells b2 65 (encAg zeroAg) :: L) w → ∀ i x, (agI a)[i]? = some x → w.cell? ⟨g, i, none⟩ = some (.int .i64 x) := fun w hw i x hx => Hs.row_cell 0 rfl (by rw [iFlat, List.getElem?_map, hx]; rfl) w hw
  refine held_Hs hS ?_
  refine valJ_ok (fun w => ixz51 (k := 0) (by simp) w) ?_
  refine valJ_at (fun w hw => ld3 (p w hw 0 _ rfl)) ?_
  refine valJ_ok (fun w => ixz51 (k := 1) (by simp) w) ?_
  refine valJ_at (fun w hw => ld3 (p w hw 1 _ rfl)) ?_
  refine valJ_ok (fun w => ixz51 (k := 2) (by simp) w) ?_
  refine valJ_at (fun w hw => ld3 (p w hw 2 _ rfl)) ?_
  refine valJ_ok (fun w => ixz51 (k := 3) (by simp) w) ?_
  refine valJ_at (fun w hw => ld3 (p w hw 3 _ rfl)) ?_
  refine valJ_ok (fun w => sl51_4 hcap w) ?_
  refine valJ_ok (fun w => arr63 w) ?_
  refine valJ_at (fun w hw => ld63 (p w hw 4 _ rfl) (p w hw 5 _ rfl) (p w hw 6 _ rfl) (p w hw 7 _ rfl)) ?_
  refine valJ_ok (fun w => ixz51 (k := 8) (by simp) w) ?_
  refine valJ_at (fun w hw => ld3 (p w hw 8 _ rfl)) ?_
  refine valJ_ok (fun w => ixz51 (k := 9) (by simp) w) ?_
  refine valJ_at (fun w hw => ld3 (p w hw 9 _ rfl)) ?_
  refine valJ_ok (fun w => bd65_0_1_2_3_4_5_6 rfl rfl rfl rfl rfl rfl w) ?_
  refine new_ok (al65 _) hS ?_
  intro b7 w hS
  refine stay_Hs hS (by first | exact fun _ h => h | exact fun _ h => .tail _ h | exact fun _ h => .tail _ (.tail _ h) | simp) ?_
  first | refine ss65 0 hS rfl rfl rfl rfl rfl rfl rfl rfl rfl rfl rfl ?_ | refine ss65 1 hS rfl rfl rfl rfl rfl rfl rfl rfl rfl rfl rfl ?_ | refine ss65 2 hS rfl rfl rfl rfl rfl rfl rfl rfl rfl rfl rfl ?_ | refine ss65 3 hS rfl rfl rfl rfl rfl rfl rfl rfl rfl rfl rfl ?_ | refine ss65 4 hS rfl rfl rfl rfl rfl rfl rfl rfl rfl rfl rfl ?_ | refine ss65 5 hS rfl rfl rfl rfl rfl rfl rfl rfl rfl rfl rfl ?_ | refine ss65 6 hS rfl rfl rfl rfl rfl rfl rfl rfl rfl rfl rfl ?_ | refine ss65 7 hS rfl rfl rfl rfl rfl rfl rfl rfl rfl rfl rfl ?_
  intro w hS
  simp only [List.set_cons_zero, List.set_cons_succ] at hS
  refine stay_Hs hS (by first | exact fun _ h => h | exact fun _ h => .tail _ h | exact fun _ h => .tail _ (.tail _ h) | simp) ?_
  unfold m36_4
  refine valP_ok (ld65 (hS.cell 0 rfl (i := 0) rfl) (hS.cell 0 rfl (i := 1) rfl) (hS.cell 0 rfl (i := 2) rfl) (hS.cell 0 rfl (i := 3) rfl) (hS.cell 0 rfl (i := 4) rfl) (hS.cell 0 rfl (i := 5) rfl) (hS.cell 0 rfl (i := 6) rfl) (hS.cell 0 rfl (i := 7) rfl) (hS.cell 0 rfl (i := 8) rfl) (hS.cell 0 rfl (i := 9) rfl)) ?_
  refine callR (by kernel_rfl) (fcheck_ret (a := a) hm hS) ?_
  rintro _ w ⟨rfl, hS⟩
  refine valP_ok (ne35 _ _ _ _ _) ?_
  unfold m36_7
  refine cond_df (by omega) ?_
  unfold m36_5
  first | refine ls65 0 hS rfl ?_ | refine ls65 1 hS rfl ?_ | refine ls65 2 hS rfl ?_ | refine ls65 3 hS rfl ?_ | refine ls65 4 hS rfl ?_ | refine ls65 5 hS rfl ?_ | refine ls65 6 hS rfl ?_ | refine ls65 7 hS rfl ?_ | refine valP_ok (ld65 (by assumption) (by assumption) (by assumption) (by assumption) (by assumption) (by assumption) (by assumption) (by assumption) (by assumption) (by assumption)) ?_
  first | refine ss65 0 hS rfl rfl rfl rfl rfl rfl rfl rfl rfl rfl rfl ?_ | refine ss65 1 hS rfl rfl rfl rfl rfl rfl rfl rfl rfl rfl rfl ?_ | refine ss65 2 hS rfl rfl rfl rfl rfl rfl rfl rfl rfl rfl rfl ?_ | refine ss65 3 hS rfl rfl rfl rfl rfl rfl rfl rfl rfl rfl rfl ?_ | refine ss65 4 hS rfl rfl rfl rfl rfl rfl rfl rfl rfl rfl rfl ?_ | refine ss65 5 hS rfl rfl rfl rfl rfl rfl rfl rfl rfl rfl rfl ?_ | refine ss65 6 hS rfl rfl rfl rfl rfl rfl rfl rfl rfl rfl rfl ?_ | refine ss65 7 hS rfl rfl rfl rfl rfl rfl rfl rfl rfl rfl rfl ?_
  intro w hS
  simp only [List.set_cons_zero, List.set_cons_succ] at hS
  unfold m36_6
  refine valS_ok (lc65 (hS.cell 2 rfl rfl) (hS.cell 2 rfl rfl) (hS.cell 2 rfl rfl) (hS.cell 2 rfl rfl) (hS.cell 2 rfl rfl) (hS.cell 2 rfl rfl) (hS.cell 2 rfl rfl) (hS.cell 2 rfl rfl) (hS.cell 2 rfl rfl) (hS.cell 2 rfl rfl) ) ?_
  exact ⟨rfl, hS.tail.tail.tail⟩
end
end Go.Proofs.Ytnhgdngbdoifnaa.M
namespace Go.Proofs.Ytnhgdngbdoifnaa.M
open Go.Proofs.Ytnhgdngbdoifnaa.F
set_option linter.unusedVariables false
set_option maxRecDepth 100000
variable {R : VP} {Q : EQ}
def m59_2 (R : VP) (t2 : Value) (w : World) : Prop :=
  R t2 w
def m59_1 (R : VP) (x0 : Value) (w : World) : Prop :=
  valP Try.prog (binS BinOp.neq 3 (tm 3) (tm 4) x0 x0) w fun t5 w =>
  m59_2 R t5 w
def m59_0 (R : VP) (x0 : Value) (w : World) : Prop :=
  m59_1 R x0 w
abbrev W59 := cwp Try.prog (fun i => 0)
noncomputable def k59_0 := bodyOf Try.f59
noncomputable def k59_1 := c2 k59_0
noncomputable def k59_2 := c2 k59_1
abbrev hR59 (R : VP) (Q : EQ) : Prop := ∀ e w, (R (e 2) w) → Q .ret e w
theorem s59_2 (hR : hR59 R Q) (e : Env) (w : World) (h : m59_2 R (e 2) w) : W59 k59_2 Q e w := by
  exact reA (hR _ _ h)
theorem s59_1 (hR : hR59 R Q) (e : Env) (w : World) (h : m59_1 R (e 0) w) : W59 k59_1 Q e w := by
  refine seA ?_
  exact rgA 1 (fun e w => m59_2 R (e 2) w) h fun e w h => then_N (s59_2 hR e w h)
theorem s59_0 (hR : hR59 R Q) (e : Env) (w : World) (h : m59_0 R (e 0) w) : W59 k59_0 Q e w := by
  refine seA ?_
  exact rgA 0 (fun e w => m59_1 R (e 0) w) h fun e w h => then_N (s59_1 hR e w h)
abbrev m59 (R : VP) (x0 : Value) (w : World) : Prop := m59_0 R x0 w
theorem s59 (x0 : Value) {R : VP} {w : World} (h : m59 R x0 w) :
    Calls Try.prog 59 #[x0] w fun e w' => ∃ v, e = .returned v ∧ R v w' :=
  calls_of_cwp (st := (fun i => 0)) (c := k59_0) (by kernel_rfl) Try.func59 (by kernel_rfl) (Nat.le_of_ble_eq_true (by kernel_rfl)) (by kernel_rfl)
    (s59_0 (R := R) (Q := endE Try.prog Try.f59 R) (fun e w h => kcast (by kernel_rfl) h) (argsE #[x0]) w (kcast (by kernel_rfl) h))
def m54_19 (R : VP) (t4 : Value) (w : World) : Prop :=
  R t4 w
def m54_17 (R : VP) (t4 : Value) (w : World) : Prop :=
  R t4 w
def m54_16 (R : VP) (w : World) : Prop :=
  m54_17 R (vi (-1)) w
def m54_18 (R : VP) (t12 : Value) (w : World) : Prop :=
  condP t12
  (m54_19 R (vi 0) w)
  (m54_16 R w)
def m54_14 (R : VP) (t4 : Value) (w : World) : Prop :=
  R t4 w
def m54_12 (R : VP) (t4 : Value) (w : World) : Prop :=
  R t4 w
def m54_10 (R : VP) (t4 : Value) (w : World) : Prop :=
  R t4 w
def m54_8 (R : VP) (t4 : Value) (w : World) : Prop :=
  R t4 w
def m54_7 (R : VP) (w : World) : Prop :=
  m54_8 R (vi 0) w
def m54_9 (R : VP) (t19 : Value) (w : World) : Prop :=
  condP t19
  (m54_10 R (vi 1) w)
  (m54_7 R w)
def m54_6 (R : VP) (x0 y1 : Value) (w : World) : Prop :=
  valP Try.prog (binS BinOp.gtr 3 (tm 17) (tm 18) x0 y1) w fun t19 w =>
  m54_9 R t19 w
def m54_11 (R : VP) (x0 y1 t16 : Value) (w : World) : Prop :=
  condP t16
  (m54_12 R (vi (-1)) w)
  (m54_6 R x0 y1 w)
def m54_5 (R : VP) (x0 y1 : Value) (w : World) : Prop :=
  valP Try.prog (binS BinOp.lss 3 (tm 14) (tm 15) x0 y1) w fun t16 w =>
  m54_11 R x0 y1 t16 w
def m54_13 (R : VP) (x0 y1 t13 : Value) (w : World) : Prop :=
  condP t13
  (m54_14 R (vi 1) w)
  (m54_5 R x0 y1 w)
def m54_4 (R : VP) (x0 y1 yNaN6 : Value) (w : World) : Prop :=
  m54_13 R x0 y1 yNaN6 w
def m54_15 (R : VP) (x0 y1 yNaN6 t11 : Value) (w : World) : Prop :=
  condP t11
  (m54_18 R yNaN6 w)
  (m54_4 R x0 y1 yNaN6 w)
def m54_3 (R : VP) (x0 y1 xNaN5 yNaN6 : Value) (w : World) : Prop :=
  m54_15 R x0 y1 yNaN6 xNaN5 w
def m54_2 (R : VP) (x0 y1 xNaN5 : Value) (w : World) : Prop :=
  callP Try.prog (fnV 59) #[y1] w fun t10 w =>
  m54_3 R x0 y1 xNaN5 t10 w
def m54_1 (R : VP) (x0 y1 : Value) (w : World) : Prop :=
  callP Try.prog (fnV 59) #[x0] w fun t8 w =>
  m54_2 R x0 y1 t8 w
def m54_0 (R : VP) (x0 y1 : Value) (w : World) : Prop :=
  m54_1 R x0 y1 w
abbrev W54 := cwp Try.prog (fun i => 0)
noncomputable def k54_0 := bodyOf Try.f54
noncomputable def k54_1 := c2 k54_0
noncomputable def k54_2 := c2 k54_1
noncomputable def k54_3 := c2 k54_2
noncomputable def k54_4 := c2 k54_3
noncomputable def k54_5 := c2 k54_4
noncomputable def k54_6 := c2 k54_5
noncomputable def k54_7 := c2 k54_6
noncomputable def k54_8 := c2 k54_7
noncomputable def k54_9 := c2 (c1 k54_6)
noncomputable def k54_10 := c2 (c1 k54_9)
noncomputable def k54_11 := c2 (c1 k54_5)
noncomputable def k54_12 := c2 (c1 k54_11)
noncomputable def k54_13 := c2 (c1 k54_4)
noncomputable def k54_14 := c2 (c1 k54_13)
noncomputable def k54_15 := c2 (c1 k54_3)
noncomputable def k54_16 := c2 (c1 k54_15)
noncomputable def k54_17 := c2 k54_16
noncomputable def k54_18 := c2 (c1 (c1 k54_15))
noncomputable def k54_19 := c2 (c1 k54_18)
abbrev hR54 (R : VP) (Q : EQ) : Prop := ∀ e w, (R (e 4) w) → Q .ret e w
theorem s54_19 (hR : hR54 R Q) (e : Env) (w : World) (h : m54_19 R (e 4) w) : W54 k54_19 Q e w := by
  exact reA (hR _ _ h)
theorem s54_17 (hR : hR54 R Q) (e : Env) (w : World) (h : m54_17 R (e 4) w) : W54 k54_17 Q e w := by
  exact reA (hR _ _ h)
theorem s54_16 (hR : hR54 R Q) (e : Env) (w : World) (h : m54_16 R w) : W54 k54_16 Q e w := by
  refine seA ?_
  exact rgA 6 (fun e w => m54_17 R (e 4) w) h fun e w h => then_N (s54_17 hR e w h)
theorem s54_18 (hN : ∀ e w, (m54_16 R w) → Q .normal e w) (hR : hR54 R Q) (e : Env) (w : World) (h : m54_18 R (e 12) w) : W54 k54_18 Q e w := by
  refine coA (Operand.tmp 12) h (fun h1 => ?_) (fun h1 => ?_)
  · refine seA ?_
    exact rgA 5 (fun e w => m54_19 R (e 4) w) h1 fun e w h => then_N (s54_19 hR e w h)
  · exact skA (hN _ _ h1)
theorem s54_14 (hR : hR54 R Q) (e : Env) (w : World) (h : m54_14 R (e 4) w) : W54 k54_14 Q e w := by
  exact reA (hR _ _ h)
theorem s54_12 (hR : hR54 R Q) (e : Env) (w : World) (h : m54_12 R (e 4) w) : W54 k54_12 Q e w := by
  exact reA (hR _ _ h)
theorem s54_10 (hR : hR54 R Q) (e : Env) (w : World) (h : m54_10 R (e 4) w) : W54 k54_10 Q e w := by
  exact reA (hR _ _ h)
theorem s54_8 (hR : hR54 R Q) (e : Env) (w : World) (h : m54_8 R (e 4) w) : W54 k54_8 Q e w := by
  exact reA (hR _ _ h)
theorem s54_7 (hR : hR54 R Q) (e : Env) (w : World) (h : m54_7 R w) : W54 k54_7 Q e w := by
  refine seA ?_
  exact rgA 13 (fun e w => m54_8 R (e 4) w) h fun e w h => then_N (s54_8 hR e w h)
theorem s54_9 (hN : ∀ e w, (m54_7 R w) → Q .normal e w) (hR : hR54 R Q) (e : Env) (w : World) (h : m54_9 R (e 19) w) : W54 k54_9 Q e w := by
  refine coA (Operand.tmp 19) h (fun h1 => ?_) (fun h1 => ?_)
  · refine seA ?_
    exact rgA 12 (fun e w => m54_10 R (e 4) w) h1 fun e w h => then_N (s54_10 hR e w h)
  · exact skA (hN _ _ h1)
theorem s54_6 (hR : hR54 R Q) (e : Env) (w : World) (h : m54_6 R (e 0) (e 1) w) : W54 k54_6 Q e w := by
  refine seA ?_
  have hN : ∀ e w, (m54_7 R w) → (thenE (W54 k54_7 Q) Q) .normal e w := fun e w h => then_N (s54_7 hR e w h)
  have hR : hR54 R (thenE (W54 k54_7 Q) Q) := fun e w h => then_R (hR e w h)
  refine seA ?_
  exact rgA 11 (fun e w => m54_9 R (e 19) w) h fun e w h => then_N (s54_9 hN hR e w h)
theorem s54_11 (hN : ∀ e w, (m54_6 R (e 0) (e 1) w) → Q .normal e w) (hR : hR54 R Q) (e : Env) (w : World) (h : m54_11 R (e 0) (e 1) (e 16) w) : W54 k54_11 Q e w := by
  refine coA (Operand.tmp 16) h (fun h1 => ?_) (fun h1 => ?_)
  · refine seA ?_
    exact rgA 10 (fun e w => m54_12 R (e 4) w) h1 fun e w h => then_N (s54_12 hR e w h)
  · exact skA (hN _ _ h1)
theorem s54_5 (hR : hR54 R Q) (e : Env) (w : World) (h : m54_5 R (e 0) (e 1) w) : W54 k54_5 Q e w := by
  refine seA ?_
  have hN : ∀ e w, (m54_6 R (e 0) (e 1) w) → (thenE (W54 k54_6 Q) Q) .normal e w := fun e w h => then_N (s54_6 hR e w h)
  have hR : hR54 R (thenE (W54 k54_6 Q) Q) := fun e w h => then_R (hR e w h)
  refine seA ?_
  exact rgA 9 (fun e w => m54_11 R (e 0) (e 1) (e 16) w) h fun e w h => then_N (s54_11 hN hR e w h)
theorem s54_13 (hN : ∀ e w, (m54_5 R (e 0) (e 1) w) → Q .normal e w) (hR : hR54 R Q) (e : Env) (w : World) (h : m54_13 R (e 0) (e 1) (e 13) w) : W54 k54_13 Q e w := by
  refine coA (Operand.tmp 13) h (fun h1 => ?_) (fun h1 => ?_)
  · refine seA ?_
    exact rgA 8 (fun e w => m54_14 R (e 4) w) h1 fun e w h => then_N (s54_14 hR e w h)
  · exact skA (hN _ _ h1)
theorem s54_4 (hR : hR54 R Q) (e : Env) (w : World) (h : m54_4 R (e 0) (e 1) (e 6) w) : W54 k54_4 Q e w := by
  refine seA ?_
  have hN : ∀ e w, (m54_5 R (e 0) (e 1) w) → (thenE (W54 k54_5 Q) Q) .normal e w := fun e w h => then_N (s54_5 hR e w h)
  have hR : hR54 R (thenE (W54 k54_5 Q) Q) := fun e w h => then_R (hR e w h)
  refine seA ?_
  exact rgA 7 (fun e w => m54_13 R (e 0) (e 1) (e 13) w) h fun e w h => then_N (s54_13 hN hR e w h)
theorem s54_15 (hN : ∀ e w, (m54_4 R (e 0) (e 1) (e 6) w) → Q .normal e w) (hR : hR54 R Q) (e : Env) (w : World) (h : m54_15 R (e 0) (e 1) (e 6) (e 11) w) : W54 k54_15 Q e w := by
  refine coA (Operand.tmp 11) h (fun h1 => ?_) (fun h1 => ?_)
  · refine seA ?_
    have hN : ∀ e w, (m54_16 R w) → (thenE (W54 k54_16 Q) Q) .normal e w := fun e w h => then_N (s54_16 hR e w h)
    have hR : hR54 R (thenE (W54 k54_16 Q) Q) := fun e w h => then_R (hR e w h)
    refine seA ?_
    exact rgA 4 (fun e w => m54_18 R (e 12) w) h1 fun e w h => then_N (s54_18 hN hR e w h)
  · exact skA (hN _ _ h1)
theorem s54_3 (hR : hR54 R Q) (e : Env) (w : World) (h : m54_3 R (e 0) (e 1) (e 5) (e 6) w) : W54 k54_3 Q e w := by
  refine seA ?_
  have hN : ∀ e w, (m54_4 R (e 0) (e 1) (e 6) w) → (thenE (W54 k54_4 Q) Q) .normal e w := fun e w h => then_N (s54_4 hR e w h)
  have hR : hR54 R (thenE (W54 k54_4 Q) Q) := fun e w h => then_R (hR e w h)
  refine seA ?_
  exact rgA 3 (fun e w => m54_15 R (e 0) (e 1) (e 6) (e 11) w) h fun e w h => then_N (s54_15 hN hR e w h)
theorem s54_2 (hR : hR54 R Q) (e : Env) (w : World) (h : m54_2 R (e 0) (e 1) (e 5) w) : W54 k54_2 Q e w := by
  refine seA ?_
  exact rgA 2 (fun e w => m54_3 R (e 0) (e 1) (e 5) (e 6) w) h fun e w h => then_N (s54_3 hR e w h)
theorem s54_1 (hR : hR54 R Q) (e : Env) (w : World) (h : m54_1 R (e 0) (e 1) w) : W54 k54_1 Q e w := by
  refine seA ?_
  exact rgA 1 (fun e w => m54_2 R (e 0) (e 1) (e 5) w) h fun e w h => then_N (s54_2 hR e w h)
theorem s54_0 (hR : hR54 R Q) (e : Env) (w : World) (h : m54_0 R (e 0) (e 1) w) : W54 k54_0 Q e w := by
  refine seA ?_
  exact rgA 0 (fun e w => m54_1 R (e 0) (e 1) w) h fun e w h => then_N (s54_1 hR e w h)
abbrev m54 (R : VP) (x0 y1 : Value) (w : World) : Prop := m54_0 R x0 y1 w
theorem s54 (x0 y1 : Value) {R : VP} {w : World} (h : m54 R x0 y1 w) :
    Calls Try.prog 54 #[x0, y1] w fun e w' => ∃ v, e = .returned v ∧ R v w' :=
  calls_of_cwp (st := (fun i => 0)) (c := k54_0) (by kernel_rfl) Try.func54 (by kernel_rfl) (Nat.le_of_ble_eq_true (by kernel_rfl)) (by kernel_rfl)
    (s54_0 (R := R) (Q := endE Try.prog Try.f54 R) (fun e w h => kcast (by kernel_rfl) h) (argsE #[x0, y1]) w (kcast (by kernel_rfl) h))
def m53_12 (R : VP) (K1 : VP) (t2 : Value) (w : World) : Prop :=
  R t2 w
def m53_9 (R : VP) (K1 : VP) (zero3 t6 t7 t8 : Value) (w : World) : Prop :=
  valP Try.prog (binS BinOp.add 3 (tm 8) (ci 1) t8 (vi 1)) w fun t16 w =>
  K1 t16 w
def m53_11 (R : VP) (K1 : VP) (zero3 val5 t6 t7 t8 t14 : Value) (w : World) : Prop :=
  condP t14
  (m53_12 R K1 val5 w)
  (m53_9 R K1 zero3 t6 t7 t8 w)
def m53_10 (R : VP) (K1 : VP) (zero3 val5 t6 t7 t8 : Value) (w : World) : Prop :=
  valP Try.prog (binS BinOp.neq 3 (tm 12) (tm 13) val5 zero3) w fun t14 w =>
  m53_11 R K1 zero3 val5 t6 t7 t8 t14 w
def m53_8 (R : VP) (K1 : VP) (zero3 t6 t7 t8 : Value) (w : World) : Prop :=
  valP Try.prog (Instr.indexAt 51 t6 t8) w fun t10 w =>
  valP Try.prog (Instr.loadAt 3 t10) w fun t11 w =>
  m53_10 R K1 zero3 t11 t6 t7 t8 w
def m53_4 (R : VP) (t2 : Value) (w : World) : Prop :=
  R t2 w
def m53_3 (R : VP) (zero3 : Value) (w : World) : Prop :=
  m53_4 R zero3 w
def m53_7 (R : VP) (K1 : VP) (zero3 t6 t7 t8 t9 : Value) (w : World) : Prop :=
  condP t9
  (m53_8 R K1 zero3 t6 t7 t8 w)
  (m53_3 R zero3 w)
def m53_6 (R : VP) (K1 : VP) (zero3 t6 t7 t8 : Value) (w : World) : Prop :=
  valP Try.prog (binS BinOp.lss 3 (tm 8) (tm 7) t8 t7) w fun t9 w =>
  m53_7 R K1 zero3 t6 t7 t8 t9 w
def m53_5 (R : VP) (zero3 t6 t7 t8 : Value) (w : World) : Prop :=
  loopP (fun (K1 : VP) (s : Value) w => m53_6 R K1 zero3 t6 t7 s w) t8 w
def m53_2 (R : VP) (vals0 zero3 : Value) (w : World) : Prop :=
  builtinP Try.prog Builtin.len #[51] 3 #[false] #[vals0] w fun t7 w =>
  m53_5 R zero3 vals0 t7 (vi 0) w
def m53_1 (R : VP) (vals0 : Value) (w : World) : Prop :=
  m53_2 R vals0 (vi 0) w
def m53_0 (R : VP) (vals0 : Value) (w : World) : Prop :=
  m53_1 R vals0 w
abbrev W53 := cwp Try.prog (fun i => 0)
noncomputable def k53_0 := bodyOf Try.f53
noncomputable def k53_1 := c2 k53_0
noncomputable def k53_2 := c2 k53_1
noncomputable def k53_3 := c2 k53_2
noncomputable def k53_4 := c2 k53_3
noncomputable def k53_5 := c2 (c1 k53_2)
noncomputable def k53_6 := c1 (c1 k53_5)
noncomputable def k53_7 := c2 k53_6
noncomputable def k53_8 := c2 k53_7
noncomputable def k53_9 := c2 k53_8
noncomputable def k53_10 := c2 (c1 (c1 k53_8))
noncomputable def k53_11 := c2 k53_10
noncomputable def k53_12 := c2 (c1 k53_11)
abbrev hR53 (R : VP) (Q : EQ) : Prop := ∀ e w, (R (e 2) w) → Q .ret e w
theorem s53_12 {K1 : VP} (hR : hR53 R Q) (e : Env) (w : World) (h : m53_12 R K1 (e 2) w) : W53 k53_12 Q e w := by
  exact reA (hR _ _ h)
theorem s53_9 {K1 : VP} (hN : ∀ e w, (K1 (e 8) w) → Q .normal e w) (e : Env) (w : World) (h : m53_9 R K1 (e 3) (e 6) (e 7) (e 8) w) : W53 k53_9 Q e w := by
  exact rgA 7 (fun e w => K1 (e 8) w) h hN
theorem s53_11 {K1 : VP} (hN : ∀ e w, (m53_9 R K1 (e 3) (e 6) (e 7) (e 8) w) → Q .normal e w) (hR : hR53 R Q) (e : Env) (w : World) (h : m53_11 R K1 (e 3) (e 5) (e 6) (e 7) (e 8) (e 14) w) : W53 k53_11 Q e w := by
  refine coA (Operand.tmp 14) h (fun h1 => ?_) (fun h1 => ?_)
  · refine seA ?_
    exact rgA 6 (fun e w => m53_12 R K1 (e 2) w) h1 fun e w h => then_N (s53_12 hR e w h)
  · exact skA (hN _ _ h1)
theorem s53_10 {K1 : VP} (hN : ∀ e w, (m53_9 R K1 (e 3) (e 6) (e 7) (e 8) w) → Q .normal e w) (hR : hR53 R Q) (e : Env) (w : World) (h : m53_10 R K1 (e 3) (e 5) (e 6) (e 7) (e 8) w) : W53 k53_10 Q e w := by
  refine seA ?_
  exact rgA 5 (fun e w => m53_11 R K1 (e 3) (e 5) (e 6) (e 7) (e 8) (e 14) w) h fun e w h => then_N (s53_11 hN hR e w h)
theorem s53_8 {K1 : VP} (hN : ∀ e w, (K1 (e 8) w) → Q .normal e w) (hR : hR53 R Q) (e : Env) (w : World) (h : m53_8 R K1 (e 3) (e 6) (e 7) (e 8) w) : W53 k53_8 Q e w := by
  refine seA ?_
  have hN : ∀ e w, (m53_9 R K1 (e 3) (e 6) (e 7) (e 8) w) → (thenE (W53 k53_9 Q) Q) .normal e w := fun e w h => then_N (s53_9 hN e w h)
  have hR : hR53 R (thenE (W53 k53_9 Q) Q) := fun e w h => then_R (hR e w h)
  refine block_ok 1 (by kernel_rfl) ?_
  have hN : ∀ e w, (m53_9 R K1 (e 3) (e 6) (e 7) (e 8) w) → (inBlockE 1 (thenE (W53 k53_9 Q) Q)) .normal e w := fun e w h => block_N (hN e w h)
  have hR : hR53 R (inBlockE 1 (thenE (W53 k53_9 Q) Q)) := fun e w h => block_R (hR e w h)
  refine seA ?_
  exact rgA 4 (fun e w => m53_10 R K1 (e 3) (e 5) (e 6) (e 7) (e 8) w) h fun e w h => then_N (s53_10 (R := R) (Q := (inBlockE 1 (thenE (W53 k53_9 Q) Q))) hN hR e w h)
theorem s53_4 (hR : hR53 R Q) (e : Env) (w : World) (h : m53_4 R (e 2) w) : W53 k53_4 Q e w := by
  exact reA (hR _ _ h)
theorem s53_3 (hR : hR53 R Q) (e : Env) (w : World) (h : m53_3 R (e 3) w) : W53 k53_3 Q e w := by
  refine seA ?_
  exact rgA 8 (fun e w => m53_4 R (e 2) w) h fun e w h => then_N (s53_4 hR e w h)
theorem s53_7 {K1 : VP} (hN : ∀ e w, (K1 (e 8) w) → Q .normal e w) (hR : hR53 R Q) (hX0 : ∀ e w, (m53_3 R (e 3) w) → Q (.exit 0) e w) (e : Env) (w : World) (h : m53_7 R K1 (e 3) (e 6) (e 7) (e 8) (e 9) w) : W53 k53_7 Q e w := by
  refine seA ?_
  have hN : ∀ e w, (m53_8 R K1 (e 3) (e 6) (e 7) (e 8) w) → (thenE (W53 k53_8 Q) Q) .normal e w := fun e w h => then_N (s53_8 hN hR e w h)
  have hX0 : ∀ e w, (m53_3 R (e 3) w) → (thenE (W53 k53_8 Q) Q) (.exit 0) e w := fun e w h => then_X (hX0 e w h)
  refine coA (Operand.tmp 9) h (fun h1 => ?_) (fun h1 => ?_)
  · exact skA (hN _ _ h1)
  · exact exA 0 (hX0 _ _ h1)
theorem s53_6 {K1 : VP} (hN : ∀ e w, (K1 (e 8) w) → Q .normal e w) (hR : hR53 R Q) (hX0 : ∀ e w, (m53_3 R (e 3) w) → Q (.exit 0) e w) (e : Env) (w : World) (h : m53_6 R K1 (e 3) (e 6) (e 7) (e 8) w) : W53 k53_6 Q e w := by
  refine seA ?_
  exact rgA 3 (fun e w => m53_7 R K1 (e 3) (e 6) (e 7) (e 8) (e 9) w) h fun e w h => then_N (s53_7 hN hR hX0 e w h)
theorem s53_5 (hN : ∀ e w, (m53_3 R (e 3) w) → Q .normal e w) (hR : hR53 R Q) (e : Env) (w : World) (h : m53_5 R (e 3) (e 6) (e 7) (e 8) w) : W53 k53_5 Q e w := by
  refine block_ok 0 (by kernel_rfl) ?_
  have hX0 : ∀ e w, (m53_3 R (e 3) w) → (inBlockE 0 Q) (.exit 0) e w := fun e w h => inBlock_same (Q := Q) 0 (hN e w h)
  have hR : hR53 R (inBlockE 0 Q) := fun e w h => block_R (hR e w h)
  refine loop_ok' (fun (e : Env) => e 8) [3, 6, 7] (by kernel_rfl) (by kernel_rfl) h (fun K e' w' hk h' => ?_)
  have r3 : e' 3 = e 3 := hk 3 (by decide)
  have r6 : e' 6 = e 6 := hk 6 (by decide)
  have r7 : e' 7 = e 7 := hk 7 (by decide)
  have hR : hR53 R (thenE (fun (e : Env) w => K (e 8) w) (inBlockE 0 Q)) := fun e w h => then_R (hR e w h)
  have hX0 : ∀ e w, (m53_3 R (e 3) w) → (thenE (fun (e : Env) w => K (e 8) w) (inBlockE 0 Q)) (.exit 0) e w := fun e w h => then_X (hX0 e w h)
  exact s53_6 (K1 := K) (fun _ _ h => then_N h) hR hX0 e' w' (by rw [r3, r6, r7]; exact h')
theorem s53_2 (hR : hR53 R Q) (e : Env) (w : World) (h : m53_2 R (e 0) (e 3) w) : W53 k53_2 Q e w := by
  refine seA ?_
  have hN : ∀ e w, (m53_3 R (e 3) w) → (thenE (W53 k53_3 Q) Q) .normal e w := fun e w h => then_N (s53_3 hR e w h)
  have hR : hR53 R (thenE (W53 k53_3 Q) Q) := fun e w h => then_R (hR e w h)
  refine seA ?_
  exact rgA 2 (fun e w => m53_5 R (e 3) (e 6) (e 7) (e 8) w) h fun e w h => then_N (s53_5 hN hR e w h)
theorem s53_1 (hR : hR53 R Q) (e : Env) (w : World) (h : m53_1 R (e 0) w) : W53 k53_1 Q e w := by
  refine seA ?_
  exact rgA 1 (fun e w => m53_2 R (e 0) (e 3) w) h fun e w h => then_N (s53_2 hR e w h)
theorem s53_0 (hR : hR53 R Q) (e : Env) (w : World) (h : m53_0 R (e 0) w) : W53 k53_0 Q e w := by
  refine seA ?_
  exact rgA 0 (fun e w => m53_1 R (e 0) w) h fun e w h => then_N (s53_1 hR e w h)
abbrev m53 (R : VP) (vals0 : Value) (w : World) : Prop := m53_0 R vals0 w
theorem s53 (vals0 : Value) {R : VP} {w : World} (h : m53 R vals0 w) :
    Calls Try.prog 53 #[vals0] w fun e w' => ∃ v, e = .returned v ∧ R v w' :=
  calls_of_cwp (st := (fun i => 0)) (c := k53_0) (by kernel_rfl) Try.func53 (by kernel_rfl) (Nat.le_of_ble_eq_true (by kernel_rfl)) (by kernel_rfl)
    (s53_0 (R := R) (Q := endE Try.prog Try.f53 R) (fun e w h => kcast (by kernel_rfl) h) (argsE #[vals0]) w (kcast (by kernel_rfl) h))
def m43_2 (R : VP) (t4 : Value) (w : World) : Prop :=
  R t4 w
def m43_1 (R : VP) (c2 at3 : Value) (w : World) : Prop :=
  anyDraw w fun w =>
  heldP w fun J =>
  valJ Try.prog J (Instr.fieldAt 67 c2 1) fun t5 =>
  valJ Try.prog J (Instr.loadAt 3 t5) fun t6 =>
  valJ Try.prog J (Instr.fieldAt 67 at3 1) fun t7 =>
  valJ Try.prog J (Instr.loadAt 3 t7) fun t8 =>
  valJ Try.prog J (Instr.fieldAt 67 c2 0) fun t10 =>
  valJ Try.prog J (Instr.loadAt 3 t10) fun t11 =>
  valJ Try.prog J (Instr.fieldAt 67 at3 0) fun t12 =>
  valJ Try.prog J (Instr.loadAt 3 t12) fun t13 =>
  callP Try.prog (fnV 54) #[t6, t8] w fun t9 w =>
  stayP J w
  (callP Try.prog (fnV 54) #[t11, t13] w fun t14 w =>
  stayP J w
  (valP Try.prog (Instr.buildSlice 51 2 #[(0, t9), (1, t14)]) w fun t15 w =>
  stayP J w
  (callP Try.prog (fnV 53) #[t15] w fun t16 w =>
  stayP J w
  (m43_2 R t16 w))))
def m43_0 (R : VP) (c0 at1 : Value) (w : World) : Prop :=
  valP Try.prog (Instr.box 67 c0) w fun c2 w =>
  valP Try.prog (Instr.box 67 at1) w fun at3 w =>
  m43_1 R c2 at3 w
abbrev W43 := cwp Try.prog (fun i => 0)
noncomputable def k43_0 := bodyOf Try.f43
noncomputable def k43_1 := c2 k43_0
noncomputable def k43_2 := c2 k43_1
abbrev hR43 (R : VP) (Q : EQ) : Prop := ∀ e w, (R (e 4) w) → Q .ret e w
theorem s43_2 (hR : hR43 R Q) (e : Env) (w : World) (h : m43_2 R (e 4) w) : W43 k43_2 Q e w := by
  exact reA (hR _ _ h)
theorem s43_1 (hR : hR43 R Q) (e : Env) (w : World) (h : m43_1 R (e 2) (e 3) w) : W43 k43_1 Q e w := by
  refine seA ?_
  have hN : ∀ e w, (m43_2 R (e 4) w) → (thenE (W43 k43_2 Q) Q) .normal e w := fun e w h => then_N (s43_2 hR e w h)
  exact treeJ_ok 1 13 (bt 13 0) (.take 0 (bt 13 1) (.take 1 (bt 13 3) (.take 2 (bt 13 7) (.take 3 (bt 13 15) (.take 5 (bt 13 47) (.take 6 (bt 13 111) (.take 7 (bt 13 239) (.take 8 (bt 13 495) (.alt 4 (bt 13 511) (.alt 9 (bt 13 1023) (.alt 10 (bt 13 2047) (.alt 11 (bt 13 4095) (.take 12 (bt 13 8191) .done) .stop) .stop) .stop) .stop))))))))) (fun e w => m43_2 R (e 4) w) (by kernel_rfl) (by kernel_rfl) (by kernel_rfl) (by kernel_rfl) (by kernel_rfl) (by kernel_rfl) (kcast (by kernel_rfl) h) hN (by kernel_rfl)
theorem s43_0 (hR : hR43 R Q) (e : Env) (w : World) (h : m43_0 R (e 0) (e 1) w) : W43 k43_0 Q e w := by
  refine seA ?_
  exact rgA 0 (fun e w => m43_1 R (e 2) (e 3) w) h fun e w h => then_N (s43_1 hR e w h)
abbrev m43 (R : VP) (c0 at1 : Value) (w : World) : Prop := m43_0 R c0 at1 w
theorem s43 (c0 at1 : Value) {R : VP} {w : World} (h : m43 R c0 at1 w) :
    Calls Try.prog 43 #[c0, at1] w fun e w' => ∃ v, e = .returned v ∧ R v w' :=
  calls_of_cwp (st := (fun i => 0)) (c := k43_0) (by kernel_rfl) Try.func43 (by kernel_rfl) (Nat.le_of_ble_eq_true (by kernel_rfl)) (by kernel_rfl)
    (s43_0 (R := R) (Q := endE Try.prog Try.f43 R) (fun e w h => kcast (by kernel_rfl) h) (argsE #[c0, at1]) w (kcast (by kernel_rfl) h))
def m51_2 (R : VP) (t2 : Value) (w : World) : Prop :=
  R t2 w
def m51_1 (R : VP) (n0 : Value) (w : World) : Prop :=
  valP Try.prog (binS BinOp.lss 3 (tm 3) (ci 0) n0 (vi 0)) w fun t4 w =>
  condP t4
  (pickP t4 (Value.bool true) undef fun t8 =>
  m51_2 R t8 w)
  (valP Try.prog (binS BinOp.gtr 3 (tm 6) (ci 1099511627776) n0 (vi 1099511627776)) w fun t7 w =>
  pickP t4 (Value.bool true) t7 fun t8 =>
  m51_2 R t8 w)
def m51_0 (R : VP) (n0 : Value) (w : World) : Prop :=
  m51_1 R n0 w
abbrev W51 := cwp Try.prog (fun i => 0)
noncomputable def k51_0 := bodyOf Try.f51
noncomputable def k51_1 := c2 k51_0
noncomputable def k51_2 := c2 k51_1
abbrev hR51 (R : VP) (Q : EQ) : Prop := ∀ e w, (R (e 2) w) → Q .ret e w
theorem s51_2 (hR : hR51 R Q) (e : Env) (w : World) (h : m51_2 R (e 2) w) : W51 k51_2 Q e w := by
  exact reA (hR _ _ h)
theorem s51_1 (hR : hR51 R Q) (e : Env) (w : World) (h : m51_1 R (e 0) w) : W51 k51_1 Q e w := by
  refine seA ?_
  exact rgA 1 (fun e w => m51_2 R (e 2) w) h fun e w h => then_N (s51_2 hR e w h)
theorem s51_0 (hR : hR51 R Q) (e : Env) (w : World) (h : m51_0 R (e 0) w) : W51 k51_0 Q e w := by
  refine seA ?_
  exact rgA 0 (fun e w => m51_1 R (e 0) w) h fun e w h => then_N (s51_1 hR e w h)
abbrev m51 (R : VP) (n0 : Value) (w : World) : Prop := m51_0 R n0 w
theorem s51 (n0 : Value) {R : VP} {w : World} (h : m51 R n0 w) :
    Calls Try.prog 51 #[n0] w fun e w' => ∃ v, e = .returned v ∧ R v w' :=
  calls_of_cwp (st := (fun i => 0)) (c := k51_0) (by kernel_rfl) Try.func51 (by kernel_rfl) (Nat.le_of_ble_eq_true (by kernel_rfl)) (by kernel_rfl)
    (s51_0 (R := R) (Q := endE Try.prog Try.f51 R) (fun e w h => kcast (by kernel_rfl) h) (argsE #[n0]) w (kcast (by kernel_rfl) h))
def m58_11 (R : VP) (K1 : VP) (t4 : Value) (w : World) : Prop :=
  R t4 w
def m58_8 (R : VP) (K1 : VP) (s0 f1 t7 t8 : Value) (w : World) : Prop :=
  valP Try.prog (binS BinOp.add 3 (tm 8) (ci 1) t8 (vi 1)) w fun t18 w =>
  K1 t18 w
def m58_10 (R : VP) (K1 : VP) (s0 f1 i5 t7 t8 t16 : Value) (w : World) : Prop :=
  condP t16
  (m58_11 R K1 i5 w)
  (m58_8 R K1 s0 f1 t7 t8 w)
def m58_9 (R : VP) (K1 : VP) (s0 f1 i5 t7 t8 : Value) (w : World) : Prop :=
  valP Try.prog (Instr.indexAt 51 s0 i5) w fun t14 w =>
  valP Try.prog (Instr.loadAt 3 t14) w fun t15 w =>
  callP Try.prog f1 #[t15] w fun t16 w =>
  m58_10 R K1 s0 f1 i5 t7 t8 t16 w
def m58_7 (R : VP) (K1 : VP) (s0 f1 t7 t8 : Value) (w : World) : Prop :=
  m58_9 R K1 s0 f1 t8 t7 t8 w
def m58_3 (R : VP) (t4 : Value) (w : World) : Prop :=
  R t4 w
def m58_2 (R : VP) (w : World) : Prop :=
  m58_3 R (vi (-1)) w
def m58_6 (R : VP) (K1 : VP) (s0 f1 t7 t8 t9 : Value) (w : World) : Prop :=
  condP t9
  (m58_7 R K1 s0 f1 t7 t8 w)
  (m58_2 R w)
def m58_5 (R : VP) (K1 : VP) (s0 f1 t7 t8 : Value) (w : World) : Prop :=
  valP Try.prog (binS BinOp.lss 3 (tm 8) (tm 7) t8 t7) w fun t9 w =>
  m58_6 R K1 s0 f1 t7 t8 t9 w
def m58_4 (R : VP) (s0 f1 t7 t8 : Value) (w : World) : Prop :=
  loopP (fun (K1 : VP) (s : Value) w => m58_5 R K1 s0 f1 t7 s w) t8 w
def m58_1 (R : VP) (s0 f1 : Value) (w : World) : Prop :=
  builtinP Try.prog Builtin.len #[51] 3 #[false] #[s0] w fun t7 w =>
  m58_4 R s0 f1 t7 (vi 0) w
def m58_0 (R : VP) (s0 f1 : Value) (w : World) : Prop :=
  m58_1 R s0 f1 w
abbrev W58 := cwp Try.prog (fun i => 0)
noncomputable def k58_0 := bodyOf Try.f58
noncomputable def k58_1 := c2 k58_0
noncomputable def k58_2 := c2 k58_1
noncomputable def k58_3 := c2 k58_2
noncomputable def k58_4 := c2 (c1 k58_1)
noncomputable def k58_5 := c1 (c1 k58_4)
noncomputable def k58_6 := c2 k58_5
noncomputable def k58_7 := c2 k58_6
noncomputable def k58_8 := c2 k58_7
noncomputable def k58_9 := c2 (c1 (c1 k58_7))
noncomputable def k58_10 := c2 k58_9
noncomputable def k58_11 := c2 (c1 k58_10)
abbrev hR58 (R : VP) (Q : EQ) : Prop := ∀ e w, (R (e 4) w) → Q .ret e w
theorem s58_11 {K1 : VP} (hR : hR58 R Q) (e : Env) (w : World) (h : m58_11 R K1 (e 4) w) : W58 k58_11 Q e w := by
  exact reA (hR _ _ h)
theorem s58_8 {K1 : VP} (hN : ∀ e w, (K1 (e 8) w) → Q .normal e w) (e : Env) (w : World) (h : m58_8 R K1 (e 0) (e 1) (e 7) (e 8) w) : W58 k58_8 Q e w := by
  exact rgA 6 (fun e w => K1 (e 8) w) h hN
theorem s58_10 {K1 : VP} (hN : ∀ e w, (m58_8 R K1 (e 0) (e 1) (e 7) (e 8) w) → Q .normal e w) (hR : hR58 R Q) (e : Env) (w : World) (h : m58_10 R K1 (e 0) (e 1) (e 5) (e 7) (e 8) (e 16) w) : W58 k58_10 Q e w := by
  refine coA (Operand.tmp 16) h (fun h1 => ?_) (fun h1 => ?_)
  · refine seA ?_
    exact rgA 5 (fun e w => m58_11 R K1 (e 4) w) h1 fun e w h => then_N (s58_11 hR e w h)
  · exact skA (hN _ _ h1)
theorem s58_9 {K1 : VP} (hN : ∀ e w, (m58_8 R K1 (e 0) (e 1) (e 7) (e 8) w) → Q .normal e w) (hR : hR58 R Q) (e : Env) (w : World) (h : m58_9 R K1 (e 0) (e 1) (e 5) (e 7) (e 8) w) : W58 k58_9 Q e w := by
  refine seA ?_
  exact rgA 4 (fun e w => m58_10 R K1 (e 0) (e 1) (e 5) (e 7) (e 8) (e 16) w) h fun e w h => then_N (s58_10 hN hR e w h)
theorem s58_7 {K1 : VP} (hN : ∀ e w, (K1 (e 8) w) → Q .normal e w) (hR : hR58 R Q) (e : Env) (w : World) (h : m58_7 R K1 (e 0) (e 1) (e 7) (e 8) w) : W58 k58_7 Q e w := by
  refine seA ?_
  have hN : ∀ e w, (m58_8 R K1 (e 0) (e 1) (e 7) (e 8) w) → (thenE (W58 k58_8 Q) Q) .normal e w := fun e w h => then_N (s58_8 hN e w h)
  have hR : hR58 R (thenE (W58 k58_8 Q) Q) := fun e w h => then_R (hR e w h)
  refine block_ok 1 (by kernel_rfl) ?_
  have hN : ∀ e w, (m58_8 R K1 (e 0) (e 1) (e 7) (e 8) w) → (inBlockE 1 (thenE (W58 k58_8 Q) Q)) .normal e w := fun e w h => block_N (hN e w h)
  have hR : hR58 R (inBlockE 1 (thenE (W58 k58_8 Q) Q)) := fun e w h => block_R (hR e w h)
  refine seA ?_
  exact rgA 3 (fun e w => m58_9 R K1 (e 0) (e 1) (e 5) (e 7) (e 8) w) h fun e w h => then_N (s58_9 (R := R) (Q := (inBlockE 1 (thenE (W58 k58_8 Q) Q))) hN hR e w h)
theorem s58_3 (hR : hR58 R Q) (e : Env) (w : World) (h : m58_3 R (e 4) w) : W58 k58_3 Q e w := by
  exact reA (hR _ _ h)
theorem s58_2 (hR : hR58 R Q) (e : Env) (w : World) (h : m58_2 R w) : W58 k58_2 Q e w := by
  refine seA ?_
  exact rgA 7 (fun e w => m58_3 R (e 4) w) h fun e w h => then_N (s58_3 hR e w h)
theorem s58_6 {K1 : VP} (hN : ∀ e w, (K1 (e 8) w) → Q .normal e w) (hR : hR58 R Q) (hX0 : ∀ e w, (m58_2 R w) → Q (.exit 0) e w) (e : Env) (w : World) (h : m58_6 R K1 (e 0) (e 1) (e 7) (e 8) (e 9) w) : W58 k58_6 Q e w := by
  refine seA ?_
  have hN : ∀ e w, (m58_7 R K1 (e 0) (e 1) (e 7) (e 8) w) → (thenE (W58 k58_7 Q) Q) .normal e w := fun e w h => then_N (s58_7 hN hR e w h)
  have hX0 : ∀ e w, (m58_2 R w) → (thenE (W58 k58_7 Q) Q) (.exit 0) e w := fun e w h => then_X (hX0 e w h)
  refine coA (Operand.tmp 9) h (fun h1 => ?_) (fun h1 => ?_)
  · exact skA (hN _ _ h1)
  · exact exA 0 (hX0 _ _ h1)
theorem s58_5 {K1 : VP} (hN : ∀ e w, (K1 (e 8) w) → Q .normal e w) (hR : hR58 R Q) (hX0 : ∀ e w, (m58_2 R w) → Q (.exit 0) e w) (e : Env) (w : World) (h : m58_5 R K1 (e 0) (e 1) (e 7) (e 8) w) : W58 k58_5 Q e w := by
  refine seA ?_
  exact rgA 2 (fun e w => m58_6 R K1 (e 0) (e 1) (e 7) (e 8) (e 9) w) h fun e w h => then_N (s58_6 hN hR hX0 e w h)
theorem s58_4 (hN : ∀ e w, (m58_2 R w) → Q .normal e w) (hR : hR58 R Q) (e : Env) (w : World) (h : m58_4 R (e 0) (e 1) (e 7) (e 8) w) : W58 k58_4 Q e w := by
  refine block_ok 0 (by kernel_rfl) ?_
  have hX0 : ∀ e w, (m58_2 R w) → (inBlockE 0 Q) (.exit 0) e w := fun e w h => inBlock_same (Q := Q) 0 (hN e w h)
  have hR : hR58 R (inBlockE 0 Q) := fun e w h => block_R (hR e w h)
  refine loop_ok' (fun (e : Env) => e 8) [0, 1, 7] (by kernel_rfl) (by kernel_rfl) h (fun K e' w' hk h' => ?_)
  have r0 : e' 0 = e 0 := hk 0 (by decide)
  have r1 : e' 1 = e 1 := hk 1 (by decide)
  have r7 : e' 7 = e 7 := hk 7 (by decide)
  have hR : hR58 R (thenE (fun (e : Env) w => K (e 8) w) (inBlockE 0 Q)) := fun e w h => then_R (hR e w h)
  have hX0 : ∀ e w, (m58_2 R w) → (thenE (fun (e : Env) w => K (e 8) w) (inBlockE 0 Q)) (.exit 0) e w := fun e w h => then_X (hX0 e w h)
  exact s58_5 (K1 := K) (fun _ _ h => then_N h) hR hX0 e' w' (by rw [r0, r1, r7]; exact h')
theorem s58_1 (hR : hR58 R Q) (e : Env) (w : World) (h : m58_1 R (e 0) (e 1) w) : W58 k58_1 Q e w := by
  refine seA ?_
  have hN : ∀ e w, (m58_2 R w) → (thenE (W58 k58_2 Q) Q) .normal e w := fun e w h => then_N (s58_2 hR e w h)
  have hR : hR58 R (thenE (W58 k58_2 Q) Q) := fun e w h => then_R (hR e w h)
  refine seA ?_
  exact rgA 1 (fun e w => m58_4 R (e 0) (e 1) (e 7) (e 8) w) h fun e w h => then_N (s58_4 hN hR e w h)
theorem s58_0 (hR : hR58 R Q) (e : Env) (w : World) (h : m58_0 R (e 0) (e 1) w) : W58 k58_0 Q e w := by
  refine seA ?_
  exact rgA 0 (fun e w => m58_1 R (e 0) (e 1) w) h fun e w h => then_N (s58_1 hR e w h)
abbrev m58 (R : VP) (s0 f1 : Value) (w : World) : Prop := m58_0 R s0 f1 w
theorem s58 (s0 f1 : Value) {R : VP} {w : World} (h : m58 R s0 f1 w) :
    Calls Try.prog 58 #[s0, f1] w fun e w' => ∃ v, e = .returned v ∧ R v w' :=
  calls_of_cwp (st := (fun i => 0)) (c := k58_0) (by kernel_rfl) Try.func58 (by kernel_rfl) (Nat.le_of_ble_eq_true (by kernel_rfl)) (by kernel_rfl)
    (s58_0 (R := R) (Q := endE Try.prog Try.f58 R) (fun e w h => kcast (by kernel_rfl) h) (argsE #[s0, f1]) w (kcast (by kernel_rfl) h))
def m50_2 (R : VP) (t4 : Value) (w : World) : Prop :=
  R t4 w
def m50_1 (R : VP) (s0 f1 : Value) (w : World) : Prop :=
  callP Try.prog (fnV 58) #[s0, f1] w fun t7 w =>
  valP Try.prog (binS BinOp.geq 3 (tm 7) (ci 0) t7 (vi 0)) w fun t8 w =>
  m50_2 R t8 w
def m50_0 (R : VP) (s0 f1 : Value) (w : World) : Prop :=
  m50_1 R s0 f1 w
abbrev W50 := cwp Try.prog (fun i => 0)
noncomputable def k50_0 := bodyOf Try.f50
noncomputable def k50_1 := c2 k50_0
noncomputable def k50_2 := c2 k50_1
abbrev hR50 (R : VP) (Q : EQ) : Prop := ∀ e w, (R (e 4) w) → Q .ret e w
theorem s50_2 (hR : hR50 R Q) (e : Env) (w : World) (h : m50_2 R (e 4) w) : W50 k50_2 Q e w := by
  exact reA (hR _ _ h)
theorem s50_1 (hR : hR50 R Q) (e : Env) (w : World) (h : m50_1 R (e 0) (e 1) w) : W50 k50_1 Q e w := by
  refine seA ?_
  exact rgA 1 (fun e w => m50_2 R (e 4) w) h fun e w h => then_N (s50_2 hR e w h)
theorem s50_0 (hR : hR50 R Q) (e : Env) (w : World) (h : m50_0 R (e 0) (e 1) w) : W50 k50_0 Q e w := by
  refine seA ?_
  exact rgA 0 (fun e w => m50_1 R (e 0) (e 1) w) h fun e w h => then_N (s50_1 hR e w h)
abbrev m50 (R : VP) (s0 f1 : Value) (w : World) : Prop := m50_0 R s0 f1 w
theorem s50 (s0 f1 : Value) {R : VP} {w : World} (h : m50 R s0 f1 w) :
    Calls Try.prog 50 #[s0, f1] w fun e w' => ∃ v, e = .returned v ∧ R v w' :=
  calls_of_cwp (st := (fun i => 0)) (c := k50_0) (by kernel_rfl) Try.func50 (by kernel_rfl) (Nat.le_of_ble_eq_true (by kernel_rfl)) (by kernel_rfl)
    (s50_0 (R := R) (Q := endE Try.prog Try.f50 R) (fun e w h => kcast (by kernel_rfl) h) (argsE #[s0, f1]) w (kcast (by kernel_rfl) h))
def m40_2 (R : VP) (t2 : Value) (w : World) : Prop :=
  R t2 w
def m40_1 (R : VP) (l0 : Value) (w : World) : Prop :=
  callP Try.prog (fnV 50) #[l0, (fnV 51)] w fun t4 w =>
  valP Try.prog (Op.unary UnOp.not t4) w fun t5 w =>
  m40_2 R t5 w
def m40_0 (R : VP) (l0 : Value) (w : World) : Prop :=
  m40_1 R l0 w
abbrev W40 := cwp Try.prog (fun i => 0)
noncomputable def k40_0 := bodyOf Try.f40
noncomputable def k40_1 := c2 k40_0
noncomputable def k40_2 := c2 k40_1
abbrev hR40 (R : VP) (Q : EQ) : Prop := ∀ e w, (R (e 2) w) → Q .ret e w
theorem s40_2 (hR : hR40 R Q) (e : Env) (w : World) (h : m40_2 R (e 2) w) : W40 k40_2 Q e w := by
  exact reA (hR _ _ h)
theorem s40_1 (hR : hR40 R Q) (e : Env) (w : World) (h : m40_1 R (e 0) w) : W40 k40_1 Q e w := by
  refine seA ?_
  exact rgA 1 (fun e w => m40_2 R (e 2) w) h fun e w h => then_N (s40_2 hR e w h)
theorem s40_0 (hR : hR40 R Q) (e : Env) (w : World) (h : m40_0 R (e 0) w) : W40 k40_0 Q e w := by
  refine seA ?_
  exact rgA 0 (fun e w => m40_1 R (e 0) w) h fun e w h => then_N (s40_1 hR e w h)
abbrev m40 (R : VP) (l0 : Value) (w : World) : Prop := m40_0 R l0 w
theorem s40 (l0 : Value) {R : VP} {w : World} (h : m40 R l0 w) :
    Calls Try.prog 40 #[l0] w fun e w' => ∃ v, e = .returned v ∧ R v w' :=
  calls_of_cwp (st := (fun i => 0)) (c := k40_0) (by kernel_rfl) Try.func40 (by kernel_rfl) (Nat.le_of_ble_eq_true (by kernel_rfl)) (by kernel_rfl)
    (s40_0 (R := R) (Q := endE Try.prog Try.f40 R) (fun e w h => kcast (by kernel_rfl) h) (argsE #[l0]) w (kcast (by kernel_rfl) h))
def m39_5 (R : VP) (t2 : Value) (w : World) : Prop :=
  R t2 w
def m39_3 (R : VP) (t2 : Value) (w : World) : Prop :=
  R t2 w
def m39_2 (R : VP) (w : World) : Prop :=
  m39_3 R (vi 0) w
def m39_4 (R : VP) (t48 : Value) (w : World) : Prop :=
  condP t48
  (m39_5 R (vi 1) w)
  (m39_2 R w)
def m39_1 (R : VP) (g1 : Value) (w : World) : Prop :=
  valP Try.prog (Instr.fieldAt 23 g1 0) w fun t3 w =>
  valP Try.prog (Instr.loadAt 3 t3) w fun t4 w =>
  valP Try.prog (binS BinOp.lss 3 (tm 4) (ci 1) t4 (vi 1)) w fun t5 w =>
  condP t5
  (pickP t5 (Value.bool true) undef fun t10 =>
  pickP t10 (Value.bool true) undef fun t15 =>
  pickP t15 (Value.bool true) undef fun t22 =>
  pickP t22 (Value.bool true) undef fun t30 =>
  pickP t30 (Value.bool true) undef fun t38 =>
  pickP t38 (Value.bool true) undef fun t43 =>
  pickP t43 (Value.bool true) undef fun t48 =>
  m39_4 R t48 w)
  (valP Try.prog (Instr.fieldAt 23 g1 0) w fun t7 w =>
  valP Try.prog (Instr.loadAt 3 t7) w fun t8 w =>
  valP Try.prog (binS BinOp.gtr 3 (tm 8) (ci 1048576) t8 (vi 1048576)) w fun t9 w =>
  pickP t5 (Value.bool true) t9 fun t10 =>
  condP t10
  (pickP t10 (Value.bool true) undef fun t15 =>
  pickP t15 (Value.bool true) undef fun t22 =>
  pickP t22 (Value.bool true) undef fun t30 =>
  pickP t30 (Value.bool true) undef fun t38 =>
  pickP t38 (Value.bool true) undef fun t43 =>
  pickP t43 (Value.bool true) undef fun t48 =>
  m39_4 R t48 w)
  (valP Try.prog (Instr.fieldAt 23 g1 1) w fun t12 w =>
  valP Try.prog (Instr.loadAt 3 t12) w fun t13 w =>
  valP Try.prog (binS BinOp.lss 3 (tm 13) (ci 1) t13 (vi 1)) w fun t14 w =>
  pickP t10 (Value.bool true) t14 fun t15 =>
  condP t15
  (pickP t15 (Value.bool true) undef fun t22 =>
  pickP t22 (Value.bool true) undef fun t30 =>
  pickP t30 (Value.bool true) undef fun t38 =>
  pickP t38 (Value.bool true) undef fun t43 =>
  pickP t43 (Value.bool true) undef fun t48 =>
  m39_4 R t48 w)
  (valP Try.prog (Instr.fieldAt 23 g1 1) w fun t17 w =>
  valP Try.prog (Instr.loadAt 3 t17) w fun t18 w =>
  valP Try.prog (Instr.fieldAt 23 g1 0) w fun t19 w =>
  valP Try.prog (Instr.loadAt 3 t19) w fun t20 w =>
  valP Try.prog (binS BinOp.gtr 3 (tm 18) (tm 20) t18 t20) w fun t21 w =>
  pickP t15 (Value.bool true) t21 fun t22 =>
  condP t22
  (pickP t22 (Value.bool true) undef fun t30 =>
  pickP t30 (Value.bool true) undef fun t38 =>
  pickP t38 (Value.bool true) undef fun t43 =>
  pickP t43 (Value.bool true) undef fun t48 =>
  m39_4 R t48 w)
  (valP Try.prog (Instr.fieldAt 23 g1 0) w fun t24 w =>
  valP Try.prog (Instr.loadAt 3 t24) w fun t25 w =>
  valP Try.prog (Instr.fieldAt 23 g1 1) w fun t26 w =>
  valP Try.prog (Instr.loadAt 3 t26) w fun t27 w =>
  valP Try.prog (binS BinOp.rem 3 (tm 25) (tm 27) t25 t27) w fun t28 w =>
  valP Try.prog (binS BinOp.neq 3 (tm 28) (ci 0) t28 (vi 0)) w fun t29 w =>
  pickP t22 (Value.bool true) t29 fun t30 =>
  condP t30
  (pickP t30 (Value.bool true) undef fun t38 =>
  pickP t38 (Value.bool true) undef fun t43 =>
  pickP t43 (Value.bool true) undef fun t48 =>
  m39_4 R t48 w)
  (valP Try.prog (Instr.fieldAt 23 g1 0) w fun t32 w =>
  valP Try.prog (Instr.loadAt 3 t32) w fun t33 w =>
  valP Try.prog (Instr.fieldAt 23 g1 1) w fun t34 w =>
  valP Try.prog (Instr.loadAt 3 t34) w fun t35 w =>
  valP Try.prog (binS BinOp.quo 3 (tm 33) (tm 35) t33 t35) w fun t36 w =>
  valP Try.prog (binS BinOp.gtr 3 (tm 36) (ci 8) t36 (vi 8)) w fun t37 w =>
  pickP t30 (Value.bool true) t37 fun t38 =>
  condP t38
  (pickP t38 (Value.bool true) undef fun t43 =>
  pickP t43 (Value.bool true) undef fun t48 =>
  m39_4 R t48 w)
  (valP Try.prog (Instr.fieldAt 23 g1 2) w fun t40 w =>
  valP Try.prog (Instr.loadAt 3 t40) w fun t41 w =>
  valP Try.prog (binS BinOp.lss 3 (tm 41) (ci 0) t41 (vi 0)) w fun t42 w =>
  pickP t38 (Value.bool true) t42 fun t43 =>
  condP t43
  (pickP t43 (Value.bool true) undef fun t48 =>
  m39_4 R t48 w)
  (valP Try.prog (Instr.fieldAt 23 g1 2) w fun t45 w =>
  valP Try.prog (Instr.loadAt 3 t45) w fun t46 w =>
  valP Try.prog (binS BinOp.gtr 3 (tm 46) (ci 1048576) t46 (vi 1048576)) w fun t47 w =>
  pickP t43 (Value.bool true) t47 fun t48 =>
  m39_4 R t48 w)))))))
def m39_0 (R : VP) (g0 : Value) (w : World) : Prop :=
  valP Try.prog (Instr.box 23 g0) w fun g1 w =>
  m39_1 R g1 w
abbrev W39 := cwp Try.prog (fun i => 0)
noncomputable def k39_0 := bodyOf Try.f39
noncomputable def k39_1 := c2 k39_0
noncomputable def k39_2 := c2 k39_1
noncomputable def k39_3 := c2 k39_2
noncomputable def k39_4 := c2 (c1 k39_1)
noncomputable def k39_5 := c2 (c1 k39_4)
abbrev hR39 (R : VP) (Q : EQ) : Prop := ∀ e w, (R (e 2) w) → Q .ret e w
theorem s39_5 (hR : hR39 R Q) (e : Env) (w : World) (h : m39_5 R (e 2) w) : W39 k39_5 Q e w := by
  exact reA (hR _ _ h)
theorem s39_3 (hR : hR39 R Q) (e : Env) (w : World) (h : m39_3 R (e 2) w) : W39 k39_3 Q e w := by
  exact reA (hR _ _ h)
theorem s39_2 (hR : hR39 R Q) (e : Env) (w : World) (h : m39_2 R w) : W39 k39_2 Q e w := by
  refine seA ?_
  exact rgA 3 (fun e w => m39_3 R (e 2) w) h fun e w h => then_N (s39_3 hR e w h)
theorem s39_4 (hN : ∀ e w, (m39_2 R w) → Q .normal e w) (hR : hR39 R Q) (e : Env) (w : World) (h : m39_4 R (e 48) w) : W39 k39_4 Q e w := by
  refine coA (Operand.tmp 48) h (fun h1 => ?_) (fun h1 => ?_)
  · refine seA ?_
    exact rgA 2 (fun e w => m39_5 R (e 2) w) h1 fun e w h => then_N (s39_5 hR e w h)
  · exact skA (hN _ _ h1)
theorem s39_1 (hR : hR39 R Q) (e : Env) (w : World) (h : m39_1 R (e 1) w) : W39 k39_1 Q e w := by
  refine seA ?_
  have hN : ∀ e w, (m39_2 R w) → (thenE (W39 k39_2 Q) Q) .normal e w := fun e w h => then_N (s39_2 hR e w h)
  have hR : hR39 R (thenE (W39 k39_2 Q) Q) := fun e w h => then_R (hR e w h)
  refine seA ?_
  have hN : ∀ e w, (m39_4 R (e 48) w) → (thenE (W39 k39_4 (thenE (W39 k39_2 Q) Q)) (thenE (W39 k39_2 Q) Q)) .normal e w := fun e w h => then_N (s39_4 hN hR e w h)
  exact rgK 1 (fun e w => m39_4 R (e 48) w) h hN
theorem s39_0 (hR : hR39 R Q) (e : Env) (w : World) (h : m39_0 R (e 0) w) : W39 k39_0 Q e w := by
  refine seA ?_
  exact rgA 0 (fun e w => m39_1 R (e 1) w) h fun e w h => then_N (s39_1 hR e w h)
abbrev m39 (R : VP) (g0 : Value) (w : World) : Prop := m39_0 R g0 w
theorem s39 (g0 : Value) {R : VP} {w : World} (h : m39 R g0 w) :
    Calls Try.prog 39 #[g0] w fun e w' => ∃ v, e = .returned v ∧ R v w' :=
  calls_of_cwp (st := (fun i => 0)) (c := k39_0) (by kernel_rfl) Try.func39 (by kernel_rfl) (Nat.le_of_ble_eq_true (by kernel_rfl)) (by kernel_rfl)
    (s39_0 (R := R) (Q := endE Try.prog Try.f39 R) (fun e w h => kcast (by kernel_rfl) h) (argsE #[g0]) w (kcast (by kernel_rfl) h))
def m41_2 (R : VP) (t6 : Value) (w : World) : Prop :=
  R t6 w
def m41_1 (R : VP) (start1 mark2 g3 : Value) (w : World) : Prop :=
  valP Try.prog (Instr.loadAt 23 g3) w fun t7 w =>
  callP Try.prog (fnV 39) #[t7] w fun t8 w =>
  valP Try.prog (binS BinOp.eql 35 (tm 8) (ci 0) t8 (vi 0)) w fun t9 w =>
  condP t9
  (valP Try.prog (binS BinOp.geq 3 (tm 11) (ci 0) mark2 (vi 0)) w fun t12 w =>
  pickP t9 t12 (Value.bool false) fun t13 =>
  condP t13
  (valP Try.prog (Instr.fieldAt 23 g3 0) w fun t17 w =>
  valP Try.prog (Instr.loadAt 3 t17) w fun t18 w =>
  valP Try.prog (binS BinOp.sub 3 (tm 16) (tm 18) mark2 t18) w fun t19 w =>
  valP Try.prog (Instr.fieldAt 23 g3 2) w fun t20 w =>
  valP Try.prog (Instr.loadAt 3 t20) w fun t21 w =>
  valP Try.prog (binS BinOp.sub 3 (tm 19) (tm 21) t19 t21) w fun t22 w =>
  valP Try.prog (binS BinOp.leq 3 (tm 15) (tm 22) start1 t22) w fun t23 w =>
  pickP t13 t23 (Value.bool false) fun t24 =>
  m41_2 R t24 w)
  (pickP t13 undef (Value.bool false) fun t24 =>
  m41_2 R t24 w))
  (pickP t9 undef (Value.bool false) fun t13 =>
  condP t13
  (valP Try.prog (Instr.fieldAt 23 g3 0) w fun t17 w =>
  valP Try.prog (Instr.loadAt 3 t17) w fun t18 w =>
  valP Try.prog (binS BinOp.sub 3 (tm 16) (tm 18) mark2 t18) w fun t19 w =>
  valP Try.prog (Instr.fieldAt 23 g3 2) w fun t20 w =>
  valP Try.prog (Instr.loadAt 3 t20) w fun t21 w =>
  valP Try.prog (binS BinOp.sub 3 (tm 19) (tm 21) t19 t21) w fun t22 w =>
  valP Try.prog (binS BinOp.leq 3 (tm 15) (tm 22) start1 t22) w fun t23 w =>
  pickP t13 t23 (Value.bool false) fun t24 =>
  m41_2 R t24 w)
  (pickP t13 undef (Value.bool false) fun t24 =>
  m41_2 R t24 w))
def m41_0 (R : VP) (g0 start1 mark2 : Value) (w : World) : Prop :=
  valP Try.prog (Instr.box 23 g0) w fun g3 w =>
  m41_1 R start1 mark2 g3 w
abbrev W41 := cwp Try.prog (fun i => 0)
noncomputable def k41_0 := bodyOf Try.f41
noncomputable def k41_1 := c2 k41_0
noncomputable def k41_2 := c2 k41_1
abbrev hR41 (R : VP) (Q : EQ) : Prop := ∀ e w, (R (e 6) w) → Q .ret e w
theorem s41_2 (hR : hR41 R Q) (e : Env) (w : World) (h : m41_2 R (e 6) w) : W41 k41_2 Q e w := by
  exact reA (hR _ _ h)
theorem s41_1 (hR : hR41 R Q) (e : Env) (w : World) (h : m41_1 R (e 1) (e 2) (e 3) w) : W41 k41_1 Q e w := by
  refine seA ?_
  exact rgA 1 (fun e w => m41_2 R (e 6) w) h fun e w h => then_N (s41_2 hR e w h)
theorem s41_0 (hR : hR41 R Q) (e : Env) (w : World) (h : m41_0 R (e 0) (e 1) (e 2) w) : W41 k41_0 Q e w := by
  refine seA ?_
  exact rgA 0 (fun e w => m41_1 R (e 1) (e 2) (e 3) w) h fun e w h => then_N (s41_1 hR e w h)
abbrev m41 (R : VP) (g0 start1 mark2 : Value) (w : World) : Prop := m41_0 R g0 start1 mark2 w
theorem s41 (g0 start1 mark2 : Value) {R : VP} {w : World} (h : m41 R g0 start1 mark2 w) :
    Calls Try.prog 41 #[g0, start1, mark2] w fun e w' => ∃ v, e = .returned v ∧ R v w' :=
  calls_of_cwp (st := (fun i => 0)) (c := k41_0) (by kernel_rfl) Try.func41 (by kernel_rfl) (Nat.le_of_ble_eq_true (by kernel_rfl)) (by kernel_rfl)
    (s41_0 (R := R) (Q := endE Try.prog Try.f41 R) (fun e w h => kcast (by kernel_rfl) h) (argsE #[g0, start1, mark2]) w (kcast (by kernel_rfl) h))
def m22_7 (R : VP) (t4 : Value) (w : World) : Prop :=
  R t4 w
def m22_5 (R : VP) (t4 : Value) (w : World) : Prop :=
  R t4 w
def m22_4 (R : VP) (w : World) : Prop :=
  m22_5 R (vi 0) w
def m22_6 (R : VP) (t116 : Value) (w : World) : Prop :=
  condP t116
  (m22_7 R (vi 1) w)
  (m22_4 R w)
def m22_3 (R : VP) (ok5 : Value) (w : World) : Prop :=
  valP Try.prog (Op.unary UnOp.not ok5) w fun t116 w =>
  m22_6 R t116 w
def m22_12 (R : VP) (K1 : (Value × Value) → World → Prop) (g2 s3 ok5 t49 t50 t51 : Value) (w : World) : Prop :=
  valP Try.prog (binS BinOp.add 3 (tm 51) (ci 1) t51 (vi 1)) w fun t114 w =>
  K1 (ok5, t114) w
def m22_14 (R : VP) (K1 : (Value × Value) → World → Prop) (g2 s3 i6 c7 t49 t50 t51 : Value) (w : World) : Prop :=
  anyDraw w fun w =>
  heldP w fun J =>
  valJ Try.prog J (Instr.fieldAt 67 c7 0) fun t58 =>
  valJ Try.prog J (Instr.loadAt 3 t58) fun t59 =>
  valJ Try.prog J (Instr.fieldAt 67 c7 1) fun t60 =>
  valJ Try.prog J (Instr.loadAt 3 t60) fun t61 =>
  valP Try.prog (Instr.buildSlice 51 2 #[(0, t59), (1, t61)]) w fun t62 w =>
  stayP J w
  (callP Try.prog (fnV 40) #[t62] w fun t63 w =>
  stayP J w
  (condP t63
  (valJ Try.prog J (Instr.fieldAt 67 c7 0) fun t65 =>
  valJ Try.prog J (Instr.loadAt 3 t65) fun t66 =>
  valJ Try.prog J (binS BinOp.leq 3 (tm 66) (ci 1048576) t66 (vi 1048576)) fun t67 =>
  pickP t63 t67 (Value.bool false) fun t68 =>
  condP t68
  (valJ Try.prog J (Instr.fieldAt 67 c7 1) fun t70 =>
  valJ Try.prog J (Instr.loadAt 3 t70) fun t71 =>
  valJ Try.prog J (Instr.fieldAt 23 g2 1) fun t72 =>
  valJ Try.prog J (Instr.loadAt 3 t72) fun t73 =>
  valJ Try.prog J (binS BinOp.rem 3 (tm 71) (tm 73) t71 t73) fun t74 =>
  valJ Try.prog J (binS BinOp.eql 3 (tm 74) (ci 0) t74 (vi 0)) fun t75 =>
  pickP t68 t75 (Value.bool false) fun t76 =>
  condP t76
  (valJ Try.prog J (Instr.fieldAt 67 c7 1) fun t78 =>
  valJ Try.prog J (Instr.loadAt 3 t78) fun t79 =>
  valJ Try.prog J (Instr.fieldAt 28 s3 0) fun t80 =>
  valJ Try.prog J (Instr.loadAt 3 t80) fun t81 =>
  valJ Try.prog J (binS BinOp.leq 3 (tm 79) (tm 81) t79 t81) fun t82 =>
  pickP t76 t82 (Value.bool false) fun t83 =>
  condP t83
  (valJ Try.prog J (Instr.loadAt 23 g2) fun t85 =>
  valJ Try.prog J (Instr.fieldAt 67 c7 1) fun t86 =>
  valJ Try.prog J (Instr.loadAt 3 t86) fun t87 =>
  valJ Try.prog J (Instr.fieldAt 28 s3 0) fun t88 =>
  valJ Try.prog J (Instr.loadAt 3 t88) fun t89 =>
  callP Try.prog (fnV 41) #[t85, t87, t89] w fun t90 w =>
  stayP J w
  (valJ Try.prog J (Op.unary UnOp.not t90) fun t91 =>
  pickP t83 t91 (Value.bool false) fun t92 =>
  condP t92
  (valJ Try.prog J (Instr.fieldAt 67 c7 2) fun t94 =>
  valJ Try.prog J (Instr.loadAt 65 t94) fun t95 =>
  callP Try.prog (fnV 42) #[t95] w fun t96 w =>
  stayP J w
  (valJ Try.prog J (binS BinOp.eql 35 (tm 96) (ci 0) t96 (vi 0)) fun t97 =>
  pickP t92 t97 (Value.bool false) fun t98 =>
  condP t98
  (valJ Try.prog J (binS BinOp.eql 3 (tm 100) (ci 0) i6 (vi 0)) fun t101 =>
  condP t101
  (pickP t101 (Value.bool true) undef fun t112 =>
  pickP t98 t112 (Value.bool false) fun t113 =>
  m22_12 R K1 g2 s3 t113 t49 t50 t51 w)
  (valJ Try.prog J (Instr.fieldAt 28 s3 4) fun t103 =>
  valJ Try.prog J (Instr.loadAt 26 t103) fun t104 =>
  valJ Try.prog J (binS BinOp.sub 3 (tm 105) (ci 1) i6 (vi 1)) fun t106 =>
  valJ Try.prog J (Instr.indexAt 26 t104 t106) fun t107 =>
  valJ Try.prog J (Instr.loadAt 67 t107) fun t108 =>
  valJ Try.prog J (Instr.loadAt 67 c7) fun t109 =>
  callP Try.prog (fnV 43) #[t108, t109] w fun t110 w =>
  stayP J w
  (valJ Try.prog J (binS BinOp.lss 3 (tm 110) (ci 0) t110 (vi 0)) fun t111 =>
  pickP t101 (Value.bool true) t111 fun t112 =>
  pickP t98 t112 (Value.bool false) fun t113 =>
  m22_12 R K1 g2 s3 t113 t49 t50 t51 w)))
  (pickP t98 undef (Value.bool false) fun t113 =>
  m22_12 R K1 g2 s3 t113 t49 t50 t51 w)))
  (pickP t92 undef (Value.bool false) fun t98 =>
  pickP t98 undef (Value.bool false) fun t113 =>
  m22_12 R K1 g2 s3 t113 t49 t50 t51 w)))
  (pickP t83 undef (Value.bool false) fun t92 =>
  pickP t92 undef (Value.bool false) fun t98 =>
  pickP t98 undef (Value.bool false) fun t113 =>
  m22_12 R K1 g2 s3 t113 t49 t50 t51 w))
  (pickP t76 undef (Value.bool false) fun t83 =>
  pickP t83 undef (Value.bool false) fun t92 =>
  pickP t92 undef (Value.bool false) fun t98 =>
  pickP t98 undef (Value.bool false) fun t113 =>
  m22_12 R K1 g2 s3 t113 t49 t50 t51 w))
  (pickP t68 undef (Value.bool false) fun t76 =>
  pickP t76 undef (Value.bool false) fun t83 =>
  pickP t83 undef (Value.bool false) fun t92 =>
  pickP t92 undef (Value.bool false) fun t98 =>
  pickP t98 undef (Value.bool false) fun t113 =>
  m22_12 R K1 g2 s3 t113 t49 t50 t51 w))
  (pickP t63 undef (Value.bool false) fun t68 =>
  pickP t68 undef (Value.bool false) fun t76 =>
  pickP t76 undef (Value.bool false) fun t83 =>
  pickP t83 undef (Value.bool false) fun t92 =>
  pickP t92 undef (Value.bool false) fun t98 =>
  pickP t98 undef (Value.bool false) fun t113 =>
  m22_12 R K1 g2 s3 t113 t49 t50 t51 w)))
def m22_15 (R : VP) (K1 : (Value × Value) → World → Prop) (g2 s3 ok5 i6 c7 t49 t50 t51 t57 : Value) (w : World) : Prop :=
  condP t57
  (m22_3 R ok5 w)
  (m22_14 R K1 g2 s3 i6 c7 t49 t50 t51 w)
def m22_13 (R : VP) (K1 : (Value × Value) → World → Prop) (g2 s3 ok5 i6 c7 t49 t50 t51 : Value) (w : World) : Prop :=
  valP Try.prog (Op.unary UnOp.not ok5) w fun t57 w =>
  m22_15 R K1 g2 s3 ok5 i6 c7 t49 t50 t51 t57 w
def m22_11 (R : VP) (K1 : (Value × Value) → World → Prop) (g2 s3 ok5 t49 t50 t51 : Value) (w : World) : Prop :=
  valP Try.prog (Instr.indexAt 26 t49 t51) w fun t54 w =>
  valP Try.prog (Instr.loadAt 67 t54) w fun t55 w =>
  valP Try.prog (Instr.alloc 67 true (.tuple #[])) w fun c7 w =>
  unitP Try.prog (Instr.storeAt 67 c7 t55) w fun _ w =>
  m22_13 R K1 g2 s3 ok5 t51 c7 t49 t50 t51 w
def m22_10 (R : VP) (K1 : (Value × Value) → World → Prop) (g2 s3 ok5 t49 t50 t51 t52 : Value) (w : World) : Prop :=
  condP t52
  (m22_11 R K1 g2 s3 ok5 t49 t50 t51 w)
  (m22_3 R ok5 w)
def m22_9 (R : VP) (K1 : (Value × Value) → World → Prop) (g2 s3 ok5 t49 t50 t51 : Value) (w : World) : Prop :=
  valP Try.prog (binS BinOp.lss 3 (tm 51) (tm 50) t51 t50) w fun t52 w =>
  m22_10 R K1 g2 s3 ok5 t49 t50 t51 t52 w
def m22_8 (R : VP) (g2 s3 ok5 t49 t50 t51 : Value) (w : World) : Prop :=
  loopP (fun (K1 : (Value × Value) → World → Prop) (s : Value × Value) w => m22_9 R K1 g2 s3 s.1 t49 t50 s.2 w) (ok5, t51) w
def m22_2 (R : VP) (g2 s3 ok5 : Value) (w : World) : Prop :=
  valP Try.prog (Instr.fieldAt 28 s3 4) w fun t48 w =>
  valP Try.prog (Instr.loadAt 26 t48) w fun t49 w =>
  builtinP Try.prog Builtin.len #[26] 3 #[false] #[t49] w fun t50 w =>
  m22_8 R g2 s3 ok5 t49 t50 (vi 0) w
def m22_1 (R : VP) (g2 s3 : Value) (w : World) : Prop :=
  valP Try.prog (Instr.loadAt 23 g2) w fun t8 w =>
  callP Try.prog (fnV 39) #[t8] w fun t9 w =>
  valP Try.prog (binS BinOp.eql 35 (tm 9) (ci 0) t9 (vi 0)) w fun t10 w =>
  condP t10
  (valP Try.prog (Instr.fieldAt 28 s3 0) w fun t12 w =>
  valP Try.prog (Instr.loadAt 3 t12) w fun t13 w =>
  valP Try.prog (binS BinOp.eql 3 (tm 13) (ci (-1)) t13 (vi (-1))) w fun t14 w =>
  condP t14
  (pickP t14 (Value.bool true) undef fun t20 =>
  pickP t10 t20 (Value.bool false) fun t21 =>
  valP Try.prog (Instr.fieldAt 28 s3 1) w fun t23 w =>
  valP Try.prog (Instr.loadAt 3 t23) w fun t24 w =>
  valP Try.prog (Instr.fieldAt 28 s3 2) w fun t25 w =>
  valP Try.prog (Instr.loadAt 3 t25) w fun t26 w =>
  valP Try.prog (Instr.fieldAt 28 s3 3) w fun t27 w =>
  valP Try.prog (Instr.loadAt 3 t27) w fun t28 w =>
  valP Try.prog (Instr.buildSlice 51 3 #[(0, t24), (1, t26), (2, t28)]) w fun t29 w =>
  callP Try.prog (fnV 40) #[t29] w fun t30 w =>
  pickP t21 t30 (Value.bool false) fun t31 =>
  condP t31
  (valP Try.prog (Instr.fieldAt 28 s3 1) w fun t33 w =>
  valP Try.prog (Instr.loadAt 3 t33) w fun t34 w =>
  valP Try.prog (Instr.fieldAt 28 s3 3) w fun t35 w =>
  valP Try.prog (Instr.loadAt 3 t35) w fun t36 w =>
  valP Try.prog (Instr.fieldAt 28 s3 2) w fun t37 w =>
  valP Try.prog (Instr.loadAt 3 t37) w fun t38 w =>
  valP Try.prog (binS BinOp.sub 3 (tm 36) (tm 38) t36 t38) w fun t39 w =>
  valP Try.prog (binS BinOp.leq 3 (tm 34) (tm 39) t34 t39) w fun t40 w =>
  pickP t31 t40 (Value.bool false) fun t41 =>
  condP t41
  (valP Try.prog (Instr.fieldAt 28 s3 4) w fun t43 w =>
  valP Try.prog (Instr.loadAt 26 t43) w fun t44 w =>
  builtinP Try.prog Builtin.len #[26] 3 #[false] #[t44] w fun t45 w =>
  valP Try.prog (binS BinOp.leq 3 (tm 45) (ci 64) t45 (vi 64)) w fun t46 w =>
  pickP t41 t46 (Value.bool false) fun t47 =>
  m22_2 R g2 s3 t47 w)
  (pickP t41 undef (Value.bool false) fun t47 =>
  m22_2 R g2 s3 t47 w))
  (pickP t31 undef (Value.bool false) fun t41 =>
  pickP t41 undef (Value.bool false) fun t47 =>
  m22_2 R g2 s3 t47 w))
  (valP Try.prog (Instr.fieldAt 28 s3 0) w fun t16 w =>
  valP Try.prog (Instr.loadAt 3 t16) w fun t17 w =>
  valP Try.prog (Instr.buildSlice 51 1 #[(0, t17)]) w fun t18 w =>
  callP Try.prog (fnV 40) #[t18] w fun t19 w =>
  pickP t14 (Value.bool true) t19 fun t20 =>
  pickP t10 t20 (Value.bool false) fun t21 =>
  condP t21
  (valP Try.prog (Instr.fieldAt 28 s3 1) w fun t23 w =>
  valP Try.prog (Instr.loadAt 3 t23) w fun t24 w =>
  valP Try.prog (Instr.fieldAt 28 s3 2) w fun t25 w =>
  valP Try.prog (Instr.loadAt 3 t25) w fun t26 w =>
  valP Try.prog (Instr.fieldAt 28 s3 3) w fun t27 w =>
  valP Try.prog (Instr.loadAt 3 t27) w fun t28 w =>
  valP Try.prog (Instr.buildSlice 51 3 #[(0, t24), (1, t26), (2, t28)]) w fun t29 w =>
  callP Try.prog (fnV 40) #[t29] w fun t30 w =>
  pickP t21 t30 (Value.bool false) fun t31 =>
  condP t31
  (valP Try.prog (Instr.fieldAt 28 s3 1) w fun t33 w =>
  valP Try.prog (Instr.loadAt 3 t33) w fun t34 w =>
  valP Try.prog (Instr.fieldAt 28 s3 3) w fun t35 w =>
  valP Try.prog (Instr.loadAt 3 t35) w fun t36 w =>
  valP Try.prog (Instr.fieldAt 28 s3 2) w fun t37 w =>
  valP Try.prog (Instr.loadAt 3 t37) w fun t38 w =>
  valP Try.prog (binS BinOp.sub 3 (tm 36) (tm 38) t36 t38) w fun t39 w =>
  valP Try.prog (binS BinOp.leq 3 (tm 34) (tm 39) t34 t39) w fun t40 w =>
  pickP t31 t40 (Value.bool false) fun t41 =>
  condP t41
  (valP Try.prog (Instr.fieldAt 28 s3 4) w fun t43 w =>
  valP Try.prog (Instr.loadAt 26 t43) w fun t44 w =>
  builtinP Try.prog Builtin.len #[26] 3 #[false] #[t44] w fun t45 w =>
  valP Try.prog (binS BinOp.leq 3 (tm 45) (ci 64) t45 (vi 64)) w fun t46 w =>
  pickP t41 t46 (Value.bool false) fun t47 =>
  m22_2 R g2 s3 t47 w)
  (pickP t41 undef (Value.bool false) fun t47 =>
  m22_2 R g2 s3 t47 w))
  (pickP t31 undef (Value.bool false) fun t41 =>
  pickP t41 undef (Value.bool false) fun t47 =>
  m22_2 R g2 s3 t47 w))
  (pickP t21 undef (Value.bool false) fun t31 =>
  pickP t31 undef (Value.bool false) fun t41 =>
  pickP t41 undef (Value.bool false) fun t47 =>
  m22_2 R g2 s3 t47 w)))
  (pickP t10 undef (Value.bool false) fun t21 =>
  pickP t21 undef (Value.bool false) fun t31 =>
  pickP t31 undef (Value.bool false) fun t41 =>
  pickP t41 undef (Value.bool false) fun t47 =>
  m22_2 R g2 s3 t47 w)
def m22_0 (R : VP) (g0 s1 : Value) (w : World) : Prop :=
  valP Try.prog (Instr.box 23 g0) w fun g2 w =>
  valP Try.prog (Instr.box 28 s1) w fun s3 w =>
  m22_1 R g2 s3 w
abbrev W22 := cwp Try.prog (fun i => 0)
noncomputable def k22_0 := bodyOf Try.f22
noncomputable def k22_1 := c2 k22_0
noncomputable def k22_2 := c2 k22_1
noncomputable def k22_3 := c2 k22_2
noncomputable def k22_4 := c2 k22_3
noncomputable def k22_5 := c2 k22_4
noncomputable def k22_6 := c2 (c1 k22_3)
noncomputable def k22_7 := c2 (c1 k22_6)
noncomputable def k22_8 := c2 (c1 k22_2)
noncomputable def k22_9 := c1 (c1 k22_8)
noncomputable def k22_10 := c2 k22_9
noncomputable def k22_11 := c2 k22_10
noncomputable def k22_12 := c2 k22_11
noncomputable def k22_13 := c2 (c1 (c1 k22_11))
noncomputable def k22_14 := c2 k22_13
noncomputable def k22_15 := c2 (c1 k22_13)
abbrev hR22 (R : VP) (Q : EQ) : Prop := ∀ e w, (R (e 4) w) → Q .ret e w
theorem s22_7 (hR : hR22 R Q) (e : Env) (w : World) (h : m22_7 R (e 4) w) : W22 k22_7 Q e w := by
  exact reA (hR _ _ h)
theorem s22_5 (hR : hR22 R Q) (e : Env) (w : World) (h : m22_5 R (e 4) w) : W22 k22_5 Q e w := by
  exact reA (hR _ _ h)
theorem s22_4 (hR : hR22 R Q) (e : Env) (w : World) (h : m22_4 R w) : W22 k22_4 Q e w := by
  refine seA ?_
  exact rgA 10 (fun e w => m22_5 R (e 4) w) h fun e w h => then_N (s22_5 hR e w h)
theorem s22_6 (hN : ∀ e w, (m22_4 R w) → Q .normal e w) (hR : hR22 R Q) (e : Env) (w : World) (h : m22_6 R (e 116) w) : W22 k22_6 Q e w := by
  refine coA (Operand.tmp 116) h (fun h1 => ?_) (fun h1 => ?_)
  · refine seA ?_
    exact rgA 9 (fun e w => m22_7 R (e 4) w) h1 fun e w h => then_N (s22_7 hR e w h)
  · exact skA (hN _ _ h1)
theorem s22_3 (hR : hR22 R Q) (e : Env) (w : World) (h : m22_3 R (e 5) w) : W22 k22_3 Q e w := by
  refine seA ?_
  have hN : ∀ e w, (m22_4 R w) → (thenE (W22 k22_4 Q) Q) .normal e w := fun e w h => then_N (s22_4 hR e w h)
  have hR : hR22 R (thenE (W22 k22_4 Q) Q) := fun e w h => then_R (hR e w h)
  refine seA ?_
  exact rgA 8 (fun e w => m22_6 R (e 116) w) h fun e w h => then_N (s22_6 hN hR e w h)
theorem s22_12 {K1 : (Value × Value) → World → Prop} (hN : ∀ e w, (K1 ((e 5), (e 51)) w) → Q .normal e w) (e : Env) (w : World) (h : m22_12 R K1 (e 2) (e 3) (e 5) (e 49) (e 50) (e 51) w) : W22 k22_12 Q e w := by
  exact rgA 7 (fun e w => K1 ((e 5), (e 51)) w) h hN
theorem s22_14 {K1 : (Value × Value) → World → Prop} (hN : ∀ e w, (m22_12 R K1 (e 2) (e 3) (e 5) (e 49) (e 50) (e 51) w) → Q .normal e w) (e : Env) (w : World) (h : m22_14 R K1 (e 2) (e 3) (e 6) (e 7) (e 49) (e 50) (e 51) w) : W22 k22_14 Q e w := by
  exact treeJ_ok 6 57 (bt 57 0) (.take 0 (bt 57 1) (.take 1 (bt 57 3) (.take 2 (bt 57 7) (.take 3 (bt 57 15) (.alt 4 (bt 57 31) (.alt 5 (bt 57 63) (.take 6 (bt 57 127) (.take 7 (bt 57 255) (.take 8 (bt 57 511) (.take 9 (bt 57 1023) (.take 10 (bt 57 2047) (.take 11 (bt 57 4095) (.take 12 (bt 57 8191) (.take 13 (bt 57 16383) (.take 14 (bt 57 32767) (.take 15 (bt 57 65535) (.take 16 (bt 57 131071) (.take 17 (bt 57 262143) (.take 18 (bt 57 524287) (.take 19 (bt 57 1048575) (.take 20 (bt 57 2097151) (.take 21 (bt 57 4194303) (.take 22 (bt 57 8388607) (.take 23 (bt 57 16777215) (.take 24 (bt 57 33554431) (.take 25 (bt 57 67108863) (.take 26 (bt 57 134217727) (.take 27 (bt 57 268435455) (.take 28 (bt 57 536870911) (.take 29 (bt 57 1073741823) (.take 30 (bt 57 2147483647) (.take 31 (bt 57 4294967295) (.alt 32 (bt 57 8589934591) (.take 33 (bt 57 17179869183) (.take 34 (bt 57 34359738367) (.take 35 (bt 57 68719476735) (.take 36 (bt 57 137438953471) (.take 37 (bt 57 274877906943) (.alt 38 (bt 57 549755813887) (.take 39 (bt 57 1099511627775) (.take 40 (bt 57 2199023255551) (.take 41 (bt 57 4398046511103) (.take 42 (bt 57 8796093022207) (.take 43 (bt 57 17592186044415) (.take 44 (bt 57 35184372088831) (.take 45 (bt 57 70368744177663) (.take 46 (bt 57 140737488355327) (.take 47 (bt 57 281474976710655) (.take 48 (bt 57 562949953421311) (.take 49 (bt 57 1125899906842623) (.take 50 (bt 57 2251799813685247) (.take 51 (bt 57 4503599627370495) (.alt 52 (bt 57 9007199254740991) (.take 53 (bt 57 18014398509481983) (.take 54 (bt 57 36028797018963967) (.take 55 (bt 57 72057594037927935) (.take 56 (bt 57 144115188075855871) .done)))) .stop)))))))))))))) .stop)))))) .stop))))))))))))))))))))))))))) .stop) .stop))))) (fun e w => m22_12 R K1 (e 2) (e 3) (e 5) (e 49) (e 50) (e 51) w) (by kernel_rfl) (by kernel_rfl) (by kernel_rfl) (by kernel_rfl) (by kernel_rfl) (by kernel_rfl) (kcast (by kernel_rfl) h) hN (by kernel_rfl)
theorem s22_15 {K1 : (Value × Value) → World → Prop} (hN : ∀ e w, (m22_14 R K1 (e 2) (e 3) (e 6) (e 7) (e 49) (e 50) (e 51) w) → Q .normal e w) (hX0 : ∀ e w, (m22_3 R (e 5) w) → Q (.exit 0) e w) (e : Env) (w : World) (h : m22_15 R K1 (e 2) (e 3) (e 5) (e 6) (e 7) (e 49) (e 50) (e 51) (e 57) w) : W22 k22_15 Q e w := by
  refine coA (Operand.tmp 57) h (fun h1 => ?_) (fun h1 => ?_)
  · exact exA 0 (hX0 _ _ h1)
  · exact skA (hN _ _ h1)
theorem s22_13 {K1 : (Value × Value) → World → Prop} (hN : ∀ e w, (m22_12 R K1 (e 2) (e 3) (e 5) (e 49) (e 50) (e 51) w) → Q .normal e w) (hX0 : ∀ e w, (m22_3 R (e 5) w) → Q (.exit 0) e w) (e : Env) (w : World) (h : m22_13 R K1 (e 2) (e 3) (e 5) (e 6) (e 7) (e 49) (e 50) (e 51) w) : W22 k22_13 Q e w := by
  refine seA ?_
  have hN : ∀ e w, (m22_14 R K1 (e 2) (e 3) (e 6) (e 7) (e 49) (e 50) (e 51) w) → (thenE (W22 k22_14 Q) Q) .normal e w := fun e w h => then_N (s22_14 hN e w h)
  have hX0 : ∀ e w, (m22_3 R (e 5) w) → (thenE (W22 k22_14 Q) Q) (.exit 0) e w := fun e w h => then_X (hX0 e w h)
  refine seA ?_
  exact rgA 5 (fun e w => m22_15 R K1 (e 2) (e 3) (e 5) (e 6) (e 7) (e 49) (e 50) (e 51) (e 57) w) h fun e w h => then_N (s22_15 hN hX0 e w h)
theorem s22_11 {K1 : (Value × Value) → World → Prop} (hN : ∀ e w, (K1 ((e 5), (e 51)) w) → Q .normal e w) (hX0 : ∀ e w, (m22_3 R (e 5) w) → Q (.exit 0) e w) (e : Env) (w : World) (h : m22_11 R K1 (e 2) (e 3) (e 5) (e 49) (e 50) (e 51) w) : W22 k22_11 Q e w := by
  refine seA ?_
  have hN : ∀ e w, (m22_12 R K1 (e 2) (e 3) (e 5) (e 49) (e 50) (e 51) w) → (thenE (W22 k22_12 Q) Q) .normal e w := fun e w h => then_N (s22_12 hN e w h)
  have hX0 : ∀ e w, (m22_3 R (e 5) w) → (thenE (W22 k22_12 Q) Q) (.exit 0) e w := fun e w h => then_X (hX0 e w h)
  refine block_ok 1 (by kernel_rfl) ?_
  have hX0 : ∀ e w, (m22_3 R (e 5) w) → (inBlockE 1 (thenE (W22 k22_12 Q) Q)) (.exit 0) e w := fun e w h => inBlock_other (Q := (thenE (W22 k22_12 Q) Q)) 1 0 (by kernel_rfl) (hX0 e w h)
  have hN : ∀ e w, (m22_12 R K1 (e 2) (e 3) (e 5) (e 49) (e 50) (e 51) w) → (inBlockE 1 (thenE (W22 k22_12 Q) Q)) .normal e w := fun e w h => block_N (hN e w h)
  refine seA ?_
  exact rgA 4 (fun e w => m22_13 R K1 (e 2) (e 3) (e 5) (e 6) (e 7) (e 49) (e 50) (e 51) w) h fun e w h => then_N (s22_13 (R := R) (Q := (inBlockE 1 (thenE (W22 k22_12 Q) Q))) hN hX0 e w h)
theorem s22_10 {K1 : (Value × Value) → World → Prop} (hN : ∀ e w, (K1 ((e 5), (e 51)) w) → Q .normal e w) (hX0 : ∀ e w, (m22_3 R (e 5) w) → Q (.exit 0) e w) (e : Env) (w : World) (h : m22_10 R K1 (e 2) (e 3) (e 5) (e 49) (e 50) (e 51) (e 52) w) : W22 k22_10 Q e w := by
  refine seA ?_
  have hN : ∀ e w, (m22_11 R K1 (e 2) (e 3) (e 5) (e 49) (e 50) (e 51) w) → (thenE (W22 k22_11 Q) Q) .normal e w := fun e w h => then_N (s22_11 hN hX0 e w h)
  have hX0 : ∀ e w, (m22_3 R (e 5) w) → (thenE (W22 k22_11 Q) Q) (.exit 0) e w := fun e w h => then_X (hX0 e w h)
  refine coA (Operand.tmp 52) h (fun h1 => ?_) (fun h1 => ?_)
  · exact skA (hN _ _ h1)
  · exact exA 0 (hX0 _ _ h1)
theorem s22_9 {K1 : (Value × Value) → World → Prop} (hN : ∀ e w, (K1 ((e 5), (e 51)) w) → Q .normal e w) (hX0 : ∀ e w, (m22_3 R (e 5) w) → Q (.exit 0) e w) (e : Env) (w : World) (h : m22_9 R K1 (e 2) (e 3) (e 5) (e 49) (e 50) (e 51) w) : W22 k22_9 Q e w := by
  refine seA ?_
  exact rgA 3 (fun e w => m22_10 R K1 (e 2) (e 3) (e 5) (e 49) (e 50) (e 51) (e 52) w) h fun e w h => then_N (s22_10 hN hX0 e w h)
theorem s22_8 (hN : ∀ e w, (m22_3 R (e 5) w) → Q .normal e w) (e : Env) (w : World) (h : m22_8 R (e 2) (e 3) (e 5) (e 49) (e 50) (e 51) w) : W22 k22_8 Q e w := by
  refine block_ok 0 (by kernel_rfl) ?_
  have hX0 : ∀ e w, (m22_3 R (e 5) w) → (inBlockE 0 Q) (.exit 0) e w := fun e w h => inBlock_same (Q := Q) 0 (hN e w h)
  refine loop_ok' (fun (e : Env) => (e 5, e 51)) [2, 3, 49, 50] (by kernel_rfl) (by kernel_rfl) h (fun K e' w' hk h' => ?_)
  have r2 : e' 2 = e 2 := hk 2 (by decide)
  have r3 : e' 3 = e 3 := hk 3 (by decide)
  have r49 : e' 49 = e 49 := hk 49 (by decide)
  have r50 : e' 50 = e 50 := hk 50 (by decide)
  have hX0 : ∀ e w, (m22_3 R (e 5) w) → (thenE (fun (e : Env) w => K ((e 5), (e 51)) w) (inBlockE 0 Q)) (.exit 0) e w := fun e w h => then_X (hX0 e w h)
  exact s22_9 (K1 := K) (fun _ _ h => then_N h) hX0 e' w' (by rw [r2, r3, r49, r50]; exact h')
theorem s22_2 (hR : hR22 R Q) (e : Env) (w : World) (h : m22_2 R (e 2) (e 3) (e 5) w) : W22 k22_2 Q e w := by
  refine seA ?_
  have hN : ∀ e w, (m22_3 R (e 5) w) → (thenE (W22 k22_3 Q) Q) .normal e w := fun e w h => then_N (s22_3 hR e w h)
  refine seA ?_
  exact rgA 2 (fun e w => m22_8 R (e 2) (e 3) (e 5) (e 49) (e 50) (e 51) w) h fun e w h => then_N (s22_8 hN e w h)
theorem s22_1 (hR : hR22 R Q) (e : Env) (w : World) (h : m22_1 R (e 2) (e 3) w) : W22 k22_1 Q e w := by
  refine seA ?_
  have hN : ∀ e w, (m22_2 R (e 2) (e 3) (e 5) w) → (thenE (W22 k22_2 Q) Q) .normal e w := fun e w h => then_N (s22_2 hR e w h)
  exact rgK 1 (fun e w => m22_2 R (e 2) (e 3) (e 5) w) h hN
theorem s22_0 (hR : hR22 R Q) (e : Env) (w : World) (h : m22_0 R (e 0) (e 1) w) : W22 k22_0 Q e w := by
  refine seA ?_
  exact rgA 0 (fun e w => m22_1 R (e 2) (e 3) w) h fun e w h => then_N (s22_1 hR e w h)
abbrev m22 (R : VP) (g0 s1 : Value) (w : World) : Prop := m22_0 R g0 s1 w
theorem s22 (g0 s1 : Value) {R : VP} {w : World} (h : m22 R g0 s1 w) :
    Calls Try.prog 22 #[g0, s1] w fun e w' => ∃ v, e = .returned v ∧ R v w' :=
  calls_of_cwp (st := (fun i => 0)) (c := k22_0) (by kernel_rfl) Try.func22 (by kernel_rfl) (Nat.le_of_ble_eq_true (by kernel_rfl)) (by kernel_rfl)
    (s22_0 (R := R) (Q := endE Try.prog Try.f22 R) (fun e w h => kcast (by kernel_rfl) h) (argsE #[g0, s1]) w (kcast (by kernel_rfl) h))
end Go.Proofs.Ytnhgdngbdoifnaa.M
