/- What an engine leaves, told some at a time: the walk. -/
import Derived.Test.YtnhgdngbdoifnaaK12
import Derived.Test.YtnhgdngbdoifnaaFwW
import Derived.Test.YtnhgdngbdoifnaaMbase0
import Derived.Test.YtnhgdngbdoifnaaMmid0
import Derived.Test.YtnhgdngbdoifnaaMgrid0
import Derived.Test.YtnhgdngbdoifnaaMfold0
import Derived.Test.YtnhgdngbdoifnaaMeng0
import Derived.Test.YtnhgdngbdoifnaaMdiff0
import Derived.Test.YtnhgdngbdoifnaaMlaw0
namespace Go.Proofs.Ytnhgdngbdoifnaa.M
open Go.Proofs.Ytnhgdngbdoifnaa.F Go.RowKit
set_option linter.unusedVariables false
set_option linter.unusedSimpArgs false
set_option maxRecDepth 100000
set_option maxHeartbeats 2000000
attribute [local irreducible] Res.cells Res.row Res.map Res.any World.cell? World.frozen? Instr.fieldAt Instr.loadAt Instr.storeAt Instr.indexAt Instr.lookup Instr.mapUpdate Instr.box Instr.build Instr.buildSlice Instr.extract Instr.alloc Instr.field Instr.index Instr.sliceAt Instr.makeSlice Instr.makeMap Instr.makeFunc binS Op.unary Sem.run
section
variable {w0 w : World} {F : List Nat} {L : List Res}
def LogR (g : Gr) (w0 : World) (F : List Nat) (L : List Res) (v : Value) (w : World) : Prop :=
  ∃ (L' : List Res) (l : List Gt) (s : Sg) (A As : Option Addr) (c cs : Nat) (t : Bool), v = .tuple #[.slice A l.length c, sgv s As cs, .bool t] ∧ St w0 F w L' ∧
    (t = true → BG w0 F L' A l ∧ Sl w0 F L' As cs s.L ∧ MayS g s ∧ SgOk s ∧ ∃ rs, l = offs 0 rs ∧ Logs g rs s ∧ rs.length ≤ 20000 ∧ ∀ r ∈ rs, RcI r)
section
variable {g : Gr}
abbrev zc : List Value := [.int .i64 0, .int .i64 0, .int .i64 0, .int .i64 0, .slice none 0 0]
abbrev LgL (L : List Res) (g : Gr) (s : Sg) (As : Option Addr) (cs b3 b7 b9 : Nat) (A2 : Option Addr) (c2 : Nat) (rs : List Rc) : List Res := grow A2 c2 (offs 0 rs) :: Res.cells b9 28 (encS s As cs) :: Res.cells b7 28 zc :: Res.cells b3 23 (encGr g) :: L
/-- what holds at the head of the loop. -/
structure LgI (g : Gr) (w0 : World) (F : List Nat) (L Lr : List Res) (b3 b7 b9 : Nat) (l : List Rc) (A' : Option Addr) (c' : Nat) (s : Sg) (As : Option Addr) (cs : Nat) (A2 : Option Addr) (c2 : Nat) (rs : List Rc) (R : List Res) (w : World) : Prop where
  len : l.length ≤ 150
  cap : l.length ≤ c'
  rd : Bes w0 F Lr 3 A' l.length (l.flatMap encR)
  logs : Logs g rs s
  ok : SgOk s
  l64 : s.L.length ≤ 64
  bnd : rs.length + 129 * l.length ≤ 19350
  rng : ∀ r ∈ rs, RcI r
  sl : Sl w0 F (R ++ Lr) As cs s.L
  st : St w0 F w (LgL (R ++ Lr) g s As cs b3 b7 b9 A2 c2 rs)
variable {Lr R : List Res} {b3 b7 b9 b12 : Nat} {l1 l2 : List Rc} {A' : Option Addr} {c' : Nat} {s t : Sg} {As At : Option Addr} {cs ct : Nat} {A2 : Option Addr} {c2 : Nat} {rs : List Rc}
theorem log_12 {K1 : Value × Value → World → Prop} {m : Int} (h1 : 1 ≤ l1.length) (hlen : (l1 ++ l2).length ≤ 150) (hcap : (l1 ++ l2).length ≤ c') (hrd : Bes w0 F Lr 3 A' (l1 ++ l2).length ((l1 ++ l2).flatMap encR)) (hlg : Logs g rs s) (hm : MayS g s) (hs : SgOk s) (ht : SgOk t) (h64 : s.L.length ≤ 64 ∧ t.L.length ≤ 64)
    (hb : rs.length + 129 * (l1 ++ l2).length ≤ 19350) (hrng : ∀ r ∈ rs, RcI r) (hE1 : Sl w0 F (R ++ Lr) As cs s.L) (hE2 : Sl w0 F (R ++ Lr) At ct t.L)
    (hK : ∀ (A' : Option Addr) (c' : Nat) (A2 : Option Addr) (c2 : Nat) (rs2 : List Rc) w, LgI g w0 F L Lr b3 b7 b9 l2 A' c' t At ct A2 c2 rs2 R w → K1 (.slice A' l2.length c', .slice A2 (offs 0 rs2).length c2) w)
    (hS : St w0 F w (Res.cells b12 28 (encS t At ct) :: LgL (R ++ Lr) g s As cs b3 b7 b9 A2 c2 rs)) :
    m5_12 (LogR g w0 F L) K1 (.slice A' (l1 ++ l2).length c') (.int .i64 m) (.pointer (some ⟨b3, 0, none⟩)) (.pointer (some ⟨b7, 0, none⟩)) (.pointer (some ⟨b9, 0, none⟩)) (.slice A2 (offs 0 rs).length c2) (.int .i64 (l1.length : Int)) (.pointer (some ⟨b12, 0, none⟩)) w := by
  have ll : (l1 ++ l2).length = l1.length + l2.length := List.length_append
  have hdo := diffS_ok hs ht
  have up : ∀ {A : Option Addr} {c : Nat} {l : List Ce}, Sl w0 F (R ++ Lr) A c l → Sl w0 F (Res.cells b12 28 (encS t At ct) :: LgL (R ++ Lr) g s As cs b3 b7 b9 A2 c2 rs) A c l := fun h => ((((h.cons _).cons _).cons _).cons _).cons _
  unfold m5_12
  refine valP_ok (ld28 (hS.cell 2 rfl rfl) (hS.cell 2 rfl rfl) (hS.cell 2 rfl rfl) (hS.cell 2 rfl rfl) (hS.cell 2 rfl rfl)) ?_
  refine valP_ok (ld28 (hS.cell 0 rfl rfl) (hS.cell 0 rfl rfl) (hS.cell 0 rfl rfl) (hS.cell 0 rfl rfl) (hS.cell 0 rfl rfl)) ?_
  refine callR (by kernel_rfl) (diff_ret h64 hs ht (up hE1) (up hE2) hS) ?_
  clear hS
  rintro _ w ⟨Ad, cd, ds, rfl, hds, hdl, hS⟩
  rw [← hds] at hdo
  unfold m5_13 m5_16
  refine loop_in (fun u w' => ∃ (i : Nat) (A : Option Addr) (c : Nat), u = (.slice A (offs 0 (rs ++ ds.take i)).length c, .int .i64 (i : Int)) ∧ i ≤ ds.length ∧ St w0 F w' (rRow Ad cd ds :: Res.cells b12 28 (encS t At ct) :: LgL (R ++ Lr) g s As cs b3 b7 b9 A c (rs ++ ds.take i))) (fun u _ => ds.length - (intOf u.2).toNat) ⟨0, A2, c2, by rw [List.take_zero, List.append_nil]; rfl, by omega, by rw [List.take_zero, List.append_nil]; exact hS⟩ ?_
  clear hS
  rintro u w ⟨i, A, c, rfl, hi, hS⟩
  simp only
  have hol : (offs 0 (rs ++ ds.take i)).length = rs.length + i := by rw [offs_len, List.length_append, List.length_take]; omega
  unfold m5_17
  refine builtin_ok (len24 _) ?_
  refine valP_ok (lss_ok _ _ _ _ _ _ _) ?_
  unfold m5_20
  refine cond_split (fun h => ?_) (fun h => ?_)
  · have hil : i < ds.length := by omega
    obtain ⟨gb, rfl⟩ := hS.row_ptr 0 rfl (by omega)
    have p := r_at (o := 0) (hS.row_rd 0 rfl) hil
    have hnx : offs 0 (rs ++ ds.take (i + 1)) = offs 0 (rs ++ ds.take i) ++ [⟨((offs 0 (rs ++ ds.take i)).length : Int), ds[i]⟩] := by
      rw [List.take_succ_eq_append_getElem hil, ← List.append_assoc, offs_snoc, offs_len, Int.zero_add]
    unfold m5_18
    refine builtin_ok (len25 _) ?_
    refine valP_ok (ix24 hil _) ?_
    refine valP_ok (ld46 p.1 p.2.1 p.2.2) ?_
    refine valP_ok (bd48_0_1 rfl _) ?_
    refine newslice_ok (bs25_1 _) hS ?_
    intro b62 w hS
    refine append_one1 (enc := encG) 2 ⟨((offs 0 (rs ++ ds.take i)).length : Int), ds[i]⟩ sl25 encG_len encG_one (by unfold maxLen; omega) (by omega) hS rfl ?_
    intro A3 c3 w hS
    simp only [List.set_cons_zero, List.set_cons_succ] at hS
    rw [← hnx] at hS ⊢
    unfold m5_19
    refine valP_ok (add_ok _ _ _ (by omega) (by omega) _) ?_
    exact ⟨⟨i + 1, A3, c3, rfl, by omega, hS⟩, by simp [intOf]; omega⟩
  · obtain rfl : i = ds.length := by omega
    rw [List.take_length] at hS ⊢
    unfold m5_14
    refine valP_ok (ld28 (hS.cell 1 rfl rfl) (hS.cell 1 rfl rfl) (hS.cell 1 rfl rfl) (hS.cell 1 rfl rfl) (hS.cell 1 rfl rfl)) ?_
    first | refine ss28 0 hS rfl rfl rfl rfl rfl rfl ?_ | refine ss28 1 hS rfl rfl rfl rfl rfl rfl ?_ | refine ss28 2 hS rfl rfl rfl rfl rfl rfl ?_ | refine ss28 3 hS rfl rfl rfl rfl rfl rfl ?_ | refine ss28 4 hS rfl rfl rfl rfl rfl rfl ?_ | refine ss28 5 hS rfl rfl rfl rfl rfl rfl ?_ | refine ss28 6 hS rfl rfl rfl rfl rfl rfl ?_ | refine ss28 7 hS rfl rfl rfl rfl rfl rfl ?_
    intro w hS
    simp only [List.set_cons_zero, List.set_cons_succ] at hS
    unfold m5_15
    refine valP_ok (so24 (by omega) (by omega) _) ?_
    rw [show (l1 ++ l2).length - l1.length = l2.length by omega]
    refine hK _ _ A c (rs ++ ds) w ⟨by omega, by omega, fun w' L' hS' hL' => ?_, ?_, ht, h64.2, by rw [List.length_append]; omega, fun r hr => ?_, hE2, hS.tail.tail⟩
    · have hd := (hrd w' L' hS' hL').dropS encR_len (k := l1.length) (by omega) hcap
      rw [List.drop_left] at hd
      exact hd
    · rw [hds]
      exact .step hlg hm ht h64.2
    · rcases List.mem_append.1 hr with h | h
      · exact hrng r h
      · exact hdo r h
end
end

end Go.Proofs.Ytnhgdngbdoifnaa.M
