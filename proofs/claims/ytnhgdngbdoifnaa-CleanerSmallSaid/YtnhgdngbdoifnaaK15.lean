/- CleanerSmall: changes that are cleaned as a whole are one for each window that is open, and one for the counts, at the most; cleaned once more they stay. -/
import Derived.Test.YtnhgdngbdoifnaaK14
import Derived.Test.YtnhgdngbdoifnaaFwL
import Derived.Test.YtnhgdngbdoifnaaFwW
import Derived.Test.YtnhgdngbdoifnaaMbase0
import Derived.Test.YtnhgdngbdoifnaaMmid0
import Derived.Test.YtnhgdngbdoifnaaMgrid0
import Derived.Test.YtnhgdngbdoifnaaMfold0
import Derived.Test.YtnhgdngbdoifnaaMeng0
import Derived.Test.YtnhgdngbdoifnaaMdiff0
import Derived.Test.YtnhgdngbdoifnaaMlaw0
namespace Go.Proofs.Ytnhgdngbdoifnaa.M
open Go.Proofs.Ytnhgdngbdoifnaa.F Go.RowKit
set_option linter.unusedVariables false
set_option linter.unusedSimpArgs false
set_option maxRecDepth 100000
set_option maxHeartbeats 2000000
attribute [local irreducible] Res.cells Res.row Res.map Res.any World.cell? World.frozen? Instr.fieldAt Instr.loadAt Instr.storeAt Instr.indexAt Instr.lookup Instr.mapUpdate Instr.box Instr.build Instr.buildSlice Instr.extract Instr.alloc Instr.field Instr.index Instr.sliceAt Instr.makeSlice Instr.makeMap Instr.makeFunc binS Op.unary Sem.run
theorem offs_ok {i : Int} {rs : List Rc} (h : ∀ r ∈ rs, RcI r) : ∀ x ∈ offs i rs, GtOk x := fun x hx => by
  have hm : x.r ∈ (offs i rs).map (·.r) := List.mem_map.2 ⟨x, hx, rfl⟩
  rw [offs_r] at hm
  exact h _ hm
section
variable {w0 : World} {g : Gr} {l : List Rc} {A : Option Addr} {c : Nat}
theorem csmall_ret {most : Int} (hmo : -9223372036854775808 ≤ most ∧ most ≤ 9223372036854775807) (hl : Rd w0 3 A l.length (l.flatMap encR)) (hc : l.length ≤ c) : Ret Try.prog 3 #[grv g, .slice A l.length c, .int .i64 most] w0 fun v w' => v = .bool true ∧ Below w0.heap.size w0 w' := by
  have hS := St.start w0
  refine s3 _ _ _ ?_
  unfold m3
  unfold m3_0
  refine new_ok (bx23 _ _ _ _) hS ?_
  intro b3 w hS
  unfold m3_1
  first | refine ls23 0 hS rfl ?_ | refine ls23 1 hS rfl ?_ | refine ls23 2 hS rfl ?_ | refine ls23 3 hS rfl ?_ | refine ls23 4 hS rfl ?_ | refine ls23 5 hS rfl ?_ | refine ls23 6 hS rfl ?_ | refine ls23 7 hS rfl ?_ | refine valP_ok (ld23 (by assumption) (by assumption) (by assumption)) ?_
  refine callR (by kernel_rfl) (log_ret hmo hc (Bes.of_old0 (Rd.takeS encR_len 150 hl)) hS) ?_
  rintro _ w ⟨L', al, s, A1, As, c1, cs, t, rfl, hS, hT⟩
  refine valP_ok (extract_ok _ 0 rfl _) ?_
  refine valP_ok (extract_ok _ 1 rfl _) ?_
  refine valP_ok (extract_ok _ 2 rfl _) ?_
  refine new_ok (al28 _) hS ?_
  intro b8 w hS
  first | refine ss28 0 hS rfl rfl rfl rfl rfl rfl ?_ | refine ss28 1 hS rfl rfl rfl rfl rfl rfl ?_ | refine ss28 2 hS rfl rfl rfl rfl rfl rfl ?_ | refine ss28 3 hS rfl rfl rfl rfl rfl rfl ?_ | refine ss28 4 hS rfl rfl rfl rfl rfl rfl ?_ | refine ss28 5 hS rfl rfl rfl rfl rfl rfl ?_ | refine ss28 6 hS rfl rfl rfl rfl rfl rfl ?_ | refine ss28 7 hS rfl rfl rfl rfl rfl rfl ?_
  intro w hS
  simp only [List.set_cons_zero, List.set_cons_succ] at hS
  unfold m3_2
  first | refine valP_ok (not_ok _ _) ?_ | refine valP_ok (notb_ok _ _) ?_
  unfold m3_6
  cases t with
  | false =>
    refine cond_t rfl ?_
    refine callR (by kernel_rfl) (awake_ret hS) ?_
    rintro _ w ⟨rfl, hS⟩
    unfold m3_7
    exact ⟨rfl, hS.below⟩
  | true =>
    obtain ⟨hB, hE, hm, hok, rs, rfl, hlg, hrl, hrng⟩ := hT rfl
    have hol := offs_len 0 rs
    have hgo := offs_ok (i := 0) hrng
    have hlt : ∀ x ∈ offs 0 rs, x.off < ((offs 0 rs).length : Int) := fun x hx => by
      have := offs_mem hx
      omega
    have hsm := cl_small hlt (by rw [offs_r]; exact logs_lives hlg)
    have hpw := offs_pw 0 rs
    generalize offs 0 rs = al at *
    refine cond_f rfl ?_
    unfold m3_3
    refine builtin_ok (len25 _) ?_
    refine callR (by kernel_rfl) (clean_ret (upto := (al.length : Int)) (by omega) hgo (hB.cons _) hS) ?_
    rintro _ w ⟨A2, c2, rfl, hS⟩
    rw [cleanN_eq] at hS ⊢
    have hg2 : ∀ x ∈ cl (al.length : Int) al, GtOk x := fun x hx => hgo x (cl_sub _ _ x hx)
    have h64 := hm.1.2.2.2.2.2.2
    have hcc := cl_cl (Int.le_refl (al.length : Int)) hpw
    generalize cl (al.length : Int) al = a at *
    unfold m3_4
    refine builtin_ok (len25 _) ?_
    first | refine valP_ok (fa28_4 _ _) ?_ | refine valP_ok (fao28_4 _ _ _) ?_
    first | refine valP_ok (ld26 (hS.cell 0 rfl rfl)) ?_ | refine valP_ok (ld26 (hS.cell 1 rfl rfl)) ?_ | refine valP_ok (ld26 (hS.cell 2 rfl rfl)) ?_ | refine valP_ok (ld26 (hS.cell 3 rfl rfl)) ?_ | refine valP_ok (ld26 (hS.cell 4 rfl rfl)) ?_ | refine valP_ok (ld26 (hS.cell 5 rfl rfl)) ?_ | refine valP_ok (ld26 (hS.cell 6 rfl rfl)) ?_ | refine valP_ok (ld26 (hS.cell 7 rfl rfl)) ?_ | refine valP_ok (ld26 (by assumption)) ?_
    refine builtin_ok (len26 _) ?_
    refine valP_ok (add_ok _ _ _ (by omega) (by omega) _) ?_
    refine valP_ok (leq_ok _ _ _ _ _ _ _) ?_
    refine cond_dt (by omega) ?_
    refine builtin_ok (len25 _) ?_
    refine callR (by kernel_rfl) (clean_ret (upto := (al.length : Int)) (by omega) hg2 (Bes.of_row 0 rfl) hS) ?_
    rintro _ w ⟨A3, c3, rfl, hS⟩
    rw [cleanN_eq, hcc] at hS ⊢
    refine callR (by kernel_rfl) (samegot_ret (by omega) (by omega) (Bes.of_row 0 rfl) (Bes.of_row 1 rfl) hS) ?_
    rintro _ w ⟨⟨t, rfl, ht⟩, hS⟩
    obtain rfl := ht.2 rfl
    first | refine pick_dt (by first | assumption | omega) ?_ | refine pick_df (by first | assumption | omega) ?_ | refine pick_t (by first | rfl | assumption) ?_ | refine pick_f (by first | rfl | assumption) ?_ | refine pick_dt rfl ?_ | refine pick_df (not_not_intro rfl) ?_
    refine cond_t rfl ?_
    refine callR (by kernel_rfl) (awake_ret hS) ?_
    rintro _ w ⟨rfl, hS⟩
    first | refine pick_dt (by first | assumption | omega) ?_ | refine pick_df (by first | assumption | omega) ?_ | refine pick_t (by first | rfl | assumption) ?_ | refine pick_f (by first | rfl | assumption) ?_ | refine pick_dt rfl ?_ | refine pick_df (not_not_intro rfl) ?_
    unfold m3_5
    exact ⟨rfl, hS.below⟩
end
section
variable {H : Type} {en : TypeId × Value → H} {w : World}
theorem openGr {n : Nat} {cs : List Value} {y : DataW H × List MemPlace} (h : DataW.trod en Try.prog w 0 (fun _ => true) true n 23 cs = some y) : ∃ g : Gr, cs = encGr g ∧ I64 g.size ∧ I64 g.hop ∧ I64 g.late := by
  obtain ⟨hl, hf⟩ := open_structE Try.underlying23 h
  rw [show Try.prog.cellsOf 23 = 3 from by kernel_rfl] at hl
  obtain ⟨c0, c1, c2, rfl⟩ : ∃ c0 c1 c2, cs = [c0, c1, c2] := by
    match cs, hl with
    | [c0, c1, c2], _ => exact ⟨c0, c1, c2, rfl⟩
  obtain ⟨_, _, h0⟩ := hf 0 3 0 1 rfl icells3
  obtain ⟨_, _, h1⟩ := hf 1 3 1 1 rfl icells3
  obtain ⟨_, _, h2⟩ := hf 2 3 2 1 rfl icells3
  obtain ⟨a0, e0, _, w0⟩ := DataW.trod_int Try.underlying3 h0
  obtain ⟨a1, e1, _, w1⟩ := DataW.trod_int Try.underlying3 h1
  obtain ⟨a2, e2, _, w2⟩ := DataW.trod_int Try.underlying3 h2
  simp at e0 e1 e2
  subst e0; subst e1; subst e2
  exact ⟨⟨a0, a1, a2⟩, rfl, iI w0, iI w1, iI w2⟩
theorem openRcs {n : Nat} {cs : List Value} {y : DataW H × List MemPlace} (h : DataW.trod en Try.prog w 0 (fun _ => true) true n 24 cs = some y) :
    ∃ (A : Option Addr) (c : Nat) (l : List Rc), cs = [.slice A l.length c] ∧ l.length ≤ c ∧ (A = none → c = 0) ∧ Rd w 3 A l.length (l.flatMap encR) ∧ ∀ x ∈ l, RcI x :=
  open_rowsE encR RcI (by omega) Try.underlying24 (by kernel_rfl) (fun n cs y h => by
    obtain ⟨r, rfl, h1, h2, h3⟩ := openRc h
    exact ⟨r, rfl, rfl, h1, h2, h3⟩) h
end

end Go.Proofs.Ytnhgdngbdoifnaa.M
