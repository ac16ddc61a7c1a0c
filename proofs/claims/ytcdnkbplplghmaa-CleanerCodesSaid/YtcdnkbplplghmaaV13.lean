/- CleanerCleans: any changes are cleaned as the document says; what was handed in stays. -/
import Derived.Test.YtcdnkbplplghmaaV12
import Derived.Test.YtcdnkbplplghmaaFwL
import Derived.Test.YtcdnkbplplghmaaFwW
import Derived.Test.YtcdnkbplplghmaaMbase0
import Derived.Test.YtcdnkbplplghmaaMmid0
import Derived.Test.YtcdnkbplplghmaaMla0
namespace Go.Proofs.Ytcdnkbplplghmaa.M
open Go.Proofs.Ytcdnkbplplghmaa.F Go.RowKit
set_option linter.unusedVariables false
set_option linter.unusedSimpArgs false
set_option maxRecDepth 100000
set_option maxHeartbeats 2000000
attribute [local irreducible] Res.cells Res.row Res.map Res.any World.cell? World.frozen? Instr.fieldAt Instr.loadAt Instr.storeAt Instr.indexAt Instr.lookup Instr.mapUpdate Instr.box Instr.build Instr.buildSlice Instr.extract Instr.alloc Instr.field Instr.index Instr.sliceAt Instr.makeSlice Instr.makeMap Instr.makeFunc binS Op.unary Sem.run
theorem cut_ok {l : List Gt} (h : ∀ g ∈ l, GtOk g) : ∀ g ∈ (l.take 150).map cutG, GtOk g := fun g hg => by
  obtain ⟨x, hx, rfl⟩ := List.mem_map.1 hg
  exact h x (List.mem_of_mem_take hx)
theorem cut_len (l : List Gt) : ((l.take 150).map cutG).length ≤ 150 := by
  rw [List.length_map, List.length_take]
  omega
theorem row_none {w0 w : World} {F : List Nat} {L : List Res} {A : Option Addr} {c : Nat} {l : List Gt} (k : Nat) (hS : St w0 F w L) (hk : L[k]? = some (grow A c l)) : A = none → c = 0 := fun h => by
  subst h
  have hown := hS.own_row k hk
  rcases hown.2 with ⟨hv, _⟩ | ⟨g, cap, cur, hv, _⟩
  · injection hv
  · injection hv with h1
    cases h1
section
variable {w0 : World} {l : List Gt} {A : Option Addr} {c : Nat}
theorem ccleans_ret (upto : Int) (hl : Rd w0 4 A l.length (l.flatMap encG)) (hc : l.length ≤ c) (hok : ∀ g ∈ l, GtOk g) : Ret Try.prog 3 #[.slice A l.length c, .int .i64 upto] w0 fun v w' => v = .bool true ∧ Below w0.heap.size w0 w' := by
  have hS := St.start w0
  have hlen := cut_len l
  have hgo := cut_ok hok
  refine s3 _ _ ?_
  unfold m3 m3_0 m3_1
  refine callR (by kernel_rfl) (some_ret hc (Bes.of_old0 (Rd.takeS encG_len 150 hl)) hS) ?_
  rintro _ w ⟨A1, c1, rfl, hS⟩
  generalize (l.take 150).map cutG = ls at *
  unfold m3_2 m3_3
  have hz := row_none 0 hS rfl
  have hB : BG w0 [] [grow A1 c1 ls] A1 ls := Bes.of_row 0 rfl
  have hS := hS.row_nil 40 4
  refine append_anyS (l0 := ([] : List Gt)) 0 sl22 encG_len encG_one (by simp; unfold maxLen; omega) (by simp; omega) hS rfl (hB.rd1 hS) hz ?_
  intro A2 c2 w hS
  simp only [List.set_cons_zero, List.nil_append] at hS ⊢
  unfold m3_4
  refine callR (by kernel_rfl) (clean_ret (upto := upto) (by omega) hgo (hB.cons _) hS) ?_
  rintro _ w ⟨A3, c3, rfl, hS⟩
  refine callR (by kernel_rfl) (rclean_ret (upto := upto) (by omega) (Bes.of_row 1 rfl) hS) ?_
  rintro _ w ⟨A4, c4, rfl, hS⟩
  have hcl := cleanN_len ls upto ls.length
  refine callR (by kernel_rfl) (samegot_ret (by omega) (by omega) (Bes.of_row 1 rfl) (Bes.of_row 0 rfl) hS) ?_
  rintro _ w ⟨⟨t, rfl, ht⟩, hS⟩
  have ht := ht.2 rfl
  subst ht
  refine cond_t rfl ?_
  refine callR (by kernel_rfl) (samegot_ret (by omega) (by omega) (Bes.of_row 3 rfl) (Bes.of_row 2 rfl) hS) ?_
  rintro _ w ⟨⟨t, rfl, ht⟩, hS⟩
  have ht := ht.2 rfl
  subst ht
  first | refine pick_dt (by first | assumption | omega) ?_ | refine pick_df (by first | assumption | omega) ?_ | refine pick_t (by first | rfl | assumption) ?_ | refine pick_f (by first | rfl | assumption) ?_ | refine pick_dt rfl ?_ | refine pick_df (not_not_intro rfl) ?_
  refine cond_t rfl ?_
  refine callR (by kernel_rfl) (awake_ret hS) ?_
  rintro _ w ⟨rfl, hS⟩
  first | refine pick_dt (by first | assumption | omega) ?_ | refine pick_df (by first | assumption | omega) ?_ | refine pick_t (by first | rfl | assumption) ?_ | refine pick_f (by first | rfl | assumption) ?_ | refine pick_dt rfl ?_ | refine pick_df (not_not_intro rfl) ?_
  unfold m3_5
  exact ⟨rfl, hS.below⟩
end
theorem icells3 : Try.prog.cellsOf 3 = 1 := by kernel_rfl
theorem iI {x : Int} (h : (Lit.int .i64 x).wf = true) : -9223372036854775808 ≤ x ∧ x ≤ 9223372036854775807 := by
  simp only [Lit.wf, Bool.and_eq_true, decide_eq_true_eq] at h
  exact h
section
variable {H : Type} {en : TypeId × Value → H} {w : World}
theorem openRc {n : Nat} {cs : List Value} {y : DataW H × List MemPlace} (h : DataW.trod en Try.prog w 0 (fun _ => true) true n 38 cs = some y) : ∃ r : Rc, cs = encR r ∧ (-9223372036854775808 ≤ r.key ∧ r.key ≤ 9223372036854775807) ∧ -9223372036854775808 ≤ r.time ∧ r.time ≤ 9223372036854775807 := by
  obtain ⟨hl, hf⟩ := open_structE Try.underlying38 h
  rw [show Try.prog.cellsOf 38 = 3 from by kernel_rfl] at hl
  obtain ⟨c0, c1, c2, rfl⟩ : ∃ c0 c1 c2, cs = [c0, c1, c2] := by
    match cs, hl with
    | [c0, c1, c2], _ => exact ⟨c0, c1, c2, rfl⟩
  obtain ⟨_, _, h0⟩ := hf 0 3 0 1 rfl icells3
  obtain ⟨_, _, h1⟩ := hf 1 3 1 1 rfl icells3
  obtain ⟨_, _, h2⟩ := hf 2 9 2 1 rfl (by kernel_rfl)
  obtain ⟨a0, e0, _, w0⟩ := DataW.trod_int Try.underlying3 h0
  obtain ⟨a1, e1, _, w1⟩ := DataW.trod_int Try.underlying3 h1
  obtain ⟨a2, e2, _, w2⟩ := DataW.trod_string Try.underlying9 h2
  simp at e0 e1 e2
  subst e0; subst e1; subst e2
  exact ⟨⟨a0, a1, a2⟩, rfl, iI w0, iI w1⟩
theorem openGt {n : Nat} {cs : List Value} {y : DataW H × List MemPlace} (h : DataW.trod en Try.prog w 0 (fun _ => true) true n 40 cs = some y) : ∃ g : Gt, cs = encG g ∧ (encG g).length = 4 ∧ GtOk g := by
  obtain ⟨hl, hf⟩ := open_structE Try.underlying40 h
  rw [show Try.prog.cellsOf 40 = 4 from by kernel_rfl] at hl
  obtain ⟨c0, c1, c2, c3, rfl⟩ : ∃ c0 c1 c2 c3, cs = [c0, c1, c2, c3] := by
    match cs, hl with
    | [c0, c1, c2, c3], _ => exact ⟨c0, c1, c2, c3, rfl⟩
  obtain ⟨_, _, h0⟩ := hf 0 3 0 1 rfl icells3
  obtain ⟨_, _, h1⟩ := hf 1 38 1 3 rfl (by kernel_rfl)
  obtain ⟨a0, e0, _, w0⟩ := DataW.trod_int Try.underlying3 h0
  obtain ⟨r, e1, hr⟩ := openRc h1
  simp at e0 e1
  obtain ⟨rfl, rfl, rfl⟩ := e1
  subst e0
  exact ⟨⟨a0, r⟩, rfl, rfl, hr⟩
theorem openGts {n : Nat} {cs : List Value} {y : DataW H × List MemPlace} (h : DataW.trod en Try.prog w 0 (fun _ => true) true n 22 cs = some y) :
    ∃ (A : Option Addr) (c : Nat) (l : List Gt), cs = [.slice A l.length c] ∧ l.length ≤ c ∧ (A = none → c = 0) ∧ Rd w 4 A l.length (l.flatMap encG) ∧ ∀ x ∈ l, GtOk x :=
  open_rowsE encG GtOk (by omega) Try.underlying22 (by kernel_rfl) (fun n cs y h => openGt h) h
end

end Go.Proofs.Ytcdnkbplplghmaa.M
