/- An engine's windows: in, Ahead, May, Value, put. -/
import Derived.Test.YtnhgdngbdoifnaaK3
import Derived.Test.YtnhgdngbdoifnaaFwW
import Derived.Test.YtnhgdngbdoifnaaMbase0
import Derived.Test.YtnhgdngbdoifnaaMmid0
import Derived.Test.YtnhgdngbdoifnaaMgrid0
import Derived.Test.YtnhgdngbdoifnaaMfold0
import Derived.Test.YtnhgdngbdoifnaaMeng0
namespace Go.Proofs.Ytnhgdngbdoifnaa.M
open Go.Proofs.Ytnhgdngbdoifnaa.F Go.RowKit
set_option linter.unusedVariables false
set_option linter.unusedSimpArgs false
set_option maxRecDepth 100000
set_option maxHeartbeats 2000000
attribute [local irreducible] Res.cells Res.row Res.map Res.any World.cell? World.frozen? Instr.fieldAt Instr.loadAt Instr.storeAt Instr.indexAt Instr.lookup Instr.mapUpdate Instr.box Instr.build Instr.buildSlice Instr.extract Instr.alloc Instr.field Instr.index Instr.sliceAt Instr.makeSlice Instr.makeMap Instr.makeFunc binS Op.unary Sem.run
abbrev encC (c : Ce) : List Value := [.int .i64 c.key, .int .i64 c.start, .int .i64 c.a.count, .int .i64 c.a.sum, .int .i64 c.a.mn, .int .i64 c.a.mx, .int .i64 c.a.h0, .int .i64 c.a.h1, .int .i64 c.a.h2, .int .i64 c.a.h3, .int .i64 c.a.re, .int .i64 c.a.im]
abbrev cev (c : Ce) : Value := .agg #[.int .i64 c.key, .int .i64 c.start, .int .i64 c.a.count, .int .i64 c.a.sum, .int .i64 c.a.mn, .int .i64 c.a.mx, .int .i64 c.a.h0, .int .i64 c.a.h1, .int .i64 c.a.h2, .int .i64 c.a.h3, .int .i64 c.a.re, .int .i64 c.a.im]
abbrev sgv (s : Sg) (A : Option Addr) (c : Nat) : Value := .agg #[.int .i64 s.mark, .int .i64 s.late, .int .i64 s.bad, .int .i64 s.n, .slice A s.L.length c]
abbrev encS (s : Sg) (A : Option Addr) (c : Nat) : List Value := [.int .i64 s.mark, .int .i64 s.late, .int .i64 s.bad, .int .i64 s.n, .slice A s.L.length c]
abbrev cRow (A : Option Addr) (c : Nat) (l : List Ce) : Res := Res.row 67 12 (.slice A l.length c) l.length (l.flatMap encC)
theorem encC_len : ∀ g, (encC g).length = 12 := fun _ => rfl
theorem encC_one : ∀ x, ∀ u ∈ encC x, u.oneCell' = true := fun x u hu => by
  simp only [List.mem_cons, List.not_mem_nil, or_false] at hu
  rcases hu with rfl | rfl | rfl | rfl | rfl | rfl | rfl | rfl | rfl | rfl | rfl | rfl <;> rfl
/-- a slice that reads as l. -/
structure Sl (w0 : World) (F : List Nat) (L : List Res) (A : Option Addr) (c : Nat) (l : List Ce) : Prop where
  rd : Bes w0 F L 12 A l.length (l.flatMap encC)
  cap : l.length ≤ c
  nul : A = none → c = 0
def in40 (x : Int) : Prop := 0 ≤ x ∧ x ≤ 1099511627776
instance (x : Int) : Decidable (in40 x) := by unfold in40; infer_instance
def CeMay (g : Gr) (m : Int) (c : Ce) : Prop := (0 ≤ c.key ∧ c.key ≤ 1048576) ∧ in40 c.start ∧ c.start % g.hop = 0 ∧ c.start ≤ m ∧ ¬ ClosedG g c.start m ∧ MayA c.a
def HdS (g : Gr) (s : Sg) : Prop := MayG g ∧ (s.mark = -1 ∨ in40 s.mark) ∧ in40 s.late ∧ in40 s.bad ∧ in40 s.n ∧ s.late + s.bad ≤ s.n ∧ s.L.length ≤ 64
def MayS (g : Gr) (s : Sg) : Prop := HdS g s ∧ ∀ i (h : i < s.L.length), CeMay g s.mark s.L[i] ∧ ∀ (h0 : 0 < i), AheadC (s.L[i - 1]'(by omega)) s.L[i]
section
variable {w0 w : World} {F : List Nat} {L : List Res}
theorem Sl.cons {A : Option Addr} {c : Nat} {l : List Ce} (h : Sl w0 F L A c l) (r : Res) : Sl w0 F (r :: L) A c l := ⟨h.rd.cons r, h.cap, h.nul⟩
theorem Sl.mono {L' : List Res} {A : Option Addr} {c : Nat} {l : List Ce} (h : Sl w0 F L A c l) (hL : ∀ r ∈ L, r ∈ L') : Sl w0 F L' A c l := ⟨h.rd.mono hL, h.cap, h.nul⟩
theorem Sl.pre {R : List Res} {A : Option Addr} {c : Nat} {l : List Ce} (h : Sl w0 F L A c l) : Sl w0 F (R ++ L) A c l := h.mono fun r hr => List.mem_append_right _ hr
theorem Sl.nil : Sl w0 F L none 0 [] := ⟨fun w L' hS hL => Rd.nil_ _ _ _, by simp, fun _ => rfl⟩
theorem Sl.row {A : Option Addr} {c : Nat} {l : List Ce} (k : Nat) (hS : St w0 F w L) (hk : L[k]? = some (cRow A c l)) : Sl w0 F L A c l := by
  refine ⟨Bes.of_row k hk, (hS.row_max k hk).1, fun h => ?_⟩
  subst h
  have hown := hS.own_row k hk
  rcases hown.2 with ⟨hv, _⟩ | ⟨g, cap, cur, hv, _⟩
  · injection hv
  · injection hv with h1
    cases h1
theorem c_at {l : List Ce} {o b i : Nat} (hr : Rd w 12 (some ⟨b, o, none⟩) l.length (l.flatMap encC)) (hi : i < l.length) (j : Nat) (hj : j < 12) {v : Value} (hv : (encC l[i])[j]? = some v) : w.cell? ⟨b, o + i * 12 + j, none⟩ = some v := hr.struct encC_len hi hj hv
theorem ldC {l : List Ce} {o b i : Nat} (hr : Rd w 12 (some ⟨b, o, none⟩) l.length (l.flatMap encC)) (hi : i < l.length) : (Instr.loadAt 67 (.pointer (some ⟨b, o + i * 12, none⟩))).run Try.prog w = .ok (cev l[i]) w :=
  ld67 (c_at hr hi 0 (by omega) rfl) (c_at hr hi 1 (by omega) rfl) (c_at hr hi 2 (by omega) rfl) (c_at hr hi 3 (by omega) rfl) (c_at hr hi 4 (by omega) rfl) (c_at hr hi 5 (by omega) rfl) (c_at hr hi 6 (by omega) rfl) (c_at hr hi 7 (by omega) rfl) (c_at hr hi 8 (by omega) rfl) (c_at hr hi 9 (by omega) rfl) (c_at hr hi 10 (by omega) rfl) (c_at hr hi 11 (by omega) rfl)
theorem ldK {b t : Nat} {c : Ce} (k : Nat) (hS : St w0 F w L) (hk : L[k]? = some (Res.cells b t (encC c))) : (Instr.loadAt 67 (.pointer (some ⟨b, 0, none⟩))).run Try.prog w = .ok (cev c) w :=
  ld67 (hS.cell k hk rfl) (hS.cell k hk rfl) (hS.cell k hk rfl) (hS.cell k hk rfl) (hS.cell k hk rfl) (hS.cell k hk rfl) (hS.cell k hk rfl) (hS.cell k hk rfl) (hS.cell k hk rfl) (hS.cell k hk rfl) (hS.cell k hk rfl) (hS.cell k hk rfl)
theorem in_ret {x : Int} (hS : St w0 F w L) : Ret Try.prog 28 #[.int .i64 x] w fun v w' => v = .bool (decide (in40 x)) ∧ St w0 F w' L := by
  refine s28 _ ?_
  unfold m28
  unfold m28_0
  have leaf : ∀ t : Bool, (t = true ↔ in40 x) → m28_2 (fun v w' => v = .bool (decide (in40 x)) ∧ St w0 F w' L) (.bool t) w := fun t ht => by
    unfold m28_2
    refine ⟨congrArg Value.bool ?_, hS⟩
    cases t with
    | true => exact (decide_eq_true (ht.1 rfl)).symm
    | false => exact (decide_eq_false fun h => by have := ht.2 h; cases this).symm
  unfold in40 at leaf
  unfold m28_1
  refine valP_ok (geq_ok _ _ _ _ _ _ _) ?_
  first | refine cond_split (fun hc0 => ?_) (fun hc0 => ?_) | refine cond_bsplit (fun hc0 => ?_) (fun hc0 => ?_)
  · refine valP_ok (leq_ok _ _ _ _ _ _ _) ?_
    first | refine pick_dt (by first | assumption | omega) ?_ | refine pick_df (by first | assumption | omega) ?_ | refine pick_t (by first | rfl | assumption) ?_ | refine pick_f (by first | rfl | assumption) ?_ | refine pick_dt rfl ?_ | refine pick_df (not_not_intro rfl) ?_
    exact leaf _ (by simp only [decide_eq_true_eq, Bool.false_eq_true, false_iff, true_iff] <;> first | contradiction | omega)
  · first | refine pick_dt (by first | assumption | omega) ?_ | refine pick_df (by first | assumption | omega) ?_ | refine pick_t (by first | rfl | assumption) ?_ | refine pick_f (by first | rfl | assumption) ?_ | refine pick_dt rfl ?_ | refine pick_df (not_not_intro rfl) ?_
    exact leaf _ (by simp only [decide_eq_true_eq, Bool.false_eq_true, false_iff, true_iff] <;> first | contradiction | omega)
theorem ahead_ret {a b : Ce} (hS : St w0 F w L) : Ret Try.prog 25 #[cev a, cev b] w fun v w' => v = .bool (decide (AheadC a b)) ∧ St w0 F w' L := by
  refine s25 _ _ ?_
  unfold m25
  unfold m25_0
  refine new_ok (bx67 _ _ _ _ _ _ _ _ _ _ _ _ _) hS ?_
  intro b2 w hS
  refine new_ok (bx67 _ _ _ _ _ _ _ _ _ _ _ _ _) hS ?_
  intro b3 w hS
  have leaf : ∀ t : Bool, (t = true ↔ AheadC a b) → m25_2 (fun v w' => v = .bool (decide (AheadC a b)) ∧ St w0 F w' L) (.bool t) w := fun t ht => by
    unfold m25_2
    refine ⟨congrArg Value.bool ?_, hS.tail.tail⟩
    cases t with
    | true => exact (decide_eq_true (ht.1 rfl)).symm
    | false => exact (decide_eq_false fun h => by have := ht.2 h; cases this).symm
  unfold AheadC at leaf
  unfold m25_1
  first | refine valP_ok (fa67_1 _ _) ?_ | refine valP_ok (fao67_1 _ _ _) ?_
  first | refine valP_ok (ld3 (hS.cell 0 rfl rfl)) ?_ | refine valP_ok (ld3 (hS.cell 1 rfl rfl)) ?_ | refine valP_ok (ld3 (hS.cell 2 rfl rfl)) ?_ | refine valP_ok (ld3 (hS.cell 3 rfl rfl)) ?_ | refine valP_ok (ld3 (hS.cell 4 rfl rfl)) ?_ | refine valP_ok (ld3 (hS.cell 5 rfl rfl)) ?_ | refine valP_ok (ld3 (hS.cell 6 rfl rfl)) ?_ | refine valP_ok (ld3 (hS.cell 7 rfl rfl)) ?_ | refine valP_ok (ld3 (by assumption)) ?_
  first | refine valP_ok (fa67_1 _ _) ?_ | refine valP_ok (fao67_1 _ _ _) ?_
  first | refine valP_ok (ld3 (hS.cell 0 rfl rfl)) ?_ | refine valP_ok (ld3 (hS.cell 1 rfl rfl)) ?_ | refine valP_ok (ld3 (hS.cell 2 rfl rfl)) ?_ | refine valP_ok (ld3 (hS.cell 3 rfl rfl)) ?_ | refine valP_ok (ld3 (hS.cell 4 rfl rfl)) ?_ | refine valP_ok (ld3 (hS.cell 5 rfl rfl)) ?_ | refine valP_ok (ld3 (hS.cell 6 rfl rfl)) ?_ | refine valP_ok (ld3 (hS.cell 7 rfl rfl)) ?_ | refine valP_ok (ld3 (by assumption)) ?_
  refine valP_ok (lss_ok _ _ _ _ _ _ _) ?_
  first | refine cond_split (fun hc0 => ?_) (fun hc0 => ?_) | refine cond_bsplit (fun hc0 => ?_) (fun hc0 => ?_)
  · first | refine pick_dt (by first | assumption | omega) ?_ | refine pick_df (by first | assumption | omega) ?_ | refine pick_t (by first | rfl | assumption) ?_ | refine pick_f (by first | rfl | assumption) ?_ | refine pick_dt rfl ?_ | refine pick_df (not_not_intro rfl) ?_
    exact leaf _ (by simp only [decide_eq_true_eq, Bool.false_eq_true, false_iff, true_iff] <;> first | contradiction | omega)
  · first | refine valP_ok (fa67_1 _ _) ?_ | refine valP_ok (fao67_1 _ _ _) ?_
    first | refine valP_ok (ld3 (hS.cell 0 rfl rfl)) ?_ | refine valP_ok (ld3 (hS.cell 1 rfl rfl)) ?_ | refine valP_ok (ld3 (hS.cell 2 rfl rfl)) ?_ | refine valP_ok (ld3 (hS.cell 3 rfl rfl)) ?_ | refine valP_ok (ld3 (hS.cell 4 rfl rfl)) ?_ | refine valP_ok (ld3 (hS.cell 5 rfl rfl)) ?_ | refine valP_ok (ld3 (hS.cell 6 rfl rfl)) ?_ | refine valP_ok (ld3 (hS.cell 7 rfl rfl)) ?_ | refine valP_ok (ld3 (by assumption)) ?_
    first | refine valP_ok (fa67_1 _ _) ?_ | refine valP_ok (fao67_1 _ _ _) ?_
    first | refine valP_ok (ld3 (hS.cell 0 rfl rfl)) ?_ | refine valP_ok (ld3 (hS.cell 1 rfl rfl)) ?_ | refine valP_ok (ld3 (hS.cell 2 rfl rfl)) ?_ | refine valP_ok (ld3 (hS.cell 3 rfl rfl)) ?_ | refine valP_ok (ld3 (hS.cell 4 rfl rfl)) ?_ | refine valP_ok (ld3 (hS.cell 5 rfl rfl)) ?_ | refine valP_ok (ld3 (hS.cell 6 rfl rfl)) ?_ | refine valP_ok (ld3 (hS.cell 7 rfl rfl)) ?_ | refine valP_ok (ld3 (by assumption)) ?_
    refine valP_ok (eq3 _ _ _ _ _) ?_
    first | refine cond_split (fun hc1 => ?_) (fun hc1 => ?_) | refine cond_bsplit (fun hc1 => ?_) (fun hc1 => ?_)
    · first | refine valP_ok (fa67_0 _ _) ?_ | refine valP_ok (fao67_0 _ _ _) ?_
      first | refine valP_ok (ld3 (hS.cell 0 rfl rfl)) ?_ | refine valP_ok (ld3 (hS.cell 1 rfl rfl)) ?_ | refine valP_ok (ld3 (hS.cell 2 rfl rfl)) ?_ | refine valP_ok (ld3 (hS.cell 3 rfl rfl)) ?_ | refine valP_ok (ld3 (hS.cell 4 rfl rfl)) ?_ | refine valP_ok (ld3 (hS.cell 5 rfl rfl)) ?_ | refine valP_ok (ld3 (hS.cell 6 rfl rfl)) ?_ | refine valP_ok (ld3 (hS.cell 7 rfl rfl)) ?_ | refine valP_ok (ld3 (by assumption)) ?_
      first | refine valP_ok (fa67_0 _ _) ?_ | refine valP_ok (fao67_0 _ _ _) ?_
      first | refine valP_ok (ld3 (hS.cell 0 rfl rfl)) ?_ | refine valP_ok (ld3 (hS.cell 1 rfl rfl)) ?_ | refine valP_ok (ld3 (hS.cell 2 rfl rfl)) ?_ | refine valP_ok (ld3 (hS.cell 3 rfl rfl)) ?_ | refine valP_ok (ld3 (hS.cell 4 rfl rfl)) ?_ | refine valP_ok (ld3 (hS.cell 5 rfl rfl)) ?_ | refine valP_ok (ld3 (hS.cell 6 rfl rfl)) ?_ | refine valP_ok (ld3 (hS.cell 7 rfl rfl)) ?_ | refine valP_ok (ld3 (by assumption)) ?_
      refine valP_ok (lss_ok _ _ _ _ _ _ _) ?_
      first | refine pick_dt (by first | assumption | omega) ?_ | refine pick_df (by first | assumption | omega) ?_ | refine pick_t (by first | rfl | assumption) ?_ | refine pick_f (by first | rfl | assumption) ?_ | refine pick_dt rfl ?_ | refine pick_df (not_not_intro rfl) ?_
      first | refine pick_dt (by first | assumption | omega) ?_ | refine pick_df (by first | assumption | omega) ?_ | refine pick_t (by first | rfl | assumption) ?_ | refine pick_f (by first | rfl | assumption) ?_ | refine pick_dt rfl ?_ | refine pick_df (not_not_intro rfl) ?_
      exact leaf _ (by simp only [decide_eq_true_eq, Bool.false_eq_true, false_iff, true_iff] <;> first | contradiction | omega)
    · first | refine pick_dt (by first | assumption | omega) ?_ | refine pick_df (by first | assumption | omega) ?_ | refine pick_t (by first | rfl | assumption) ?_ | refine pick_f (by first | rfl | assumption) ?_ | refine pick_dt rfl ?_ | refine pick_df (not_not_intro rfl) ?_
      first | refine pick_dt (by first | assumption | omega) ?_ | refine pick_df (by first | assumption | omega) ?_ | refine pick_t (by first | rfl | assumption) ?_ | refine pick_f (by first | rfl | assumption) ?_ | refine pick_dt rfl ?_ | refine pick_df (not_not_intro rfl) ?_
      exact leaf _ (by simp only [decide_eq_true_eq, Bool.false_eq_true, false_iff, true_iff] <;> first | contradiction | omega)
theorem takeS_rng {s r : ByteArray} {n : Int} (h : takeS s = some (n, r)) : I64 n := by
  rw [takeS_L] at h
  cases h1 : takeL (bytesN s) with
  | none => rw [h1] at h; cases h
  | some p =>
    obtain ⟨m, rest⟩ := p
    rw [h1] at h
    obtain ⟨e, n1, n2⟩ := takeL_canon (bytesN_lt s) h1
    have := (Prod.mk.inj (Option.some.inj h)).1
    simp only at this
    subst this
    exact ⟨n1, n2⟩
theorem value_ret {r : Rc} (hS : St w0 F w L) : Ret Try.prog 44 #[rv r] w fun v w' => (∃ x t, v = .tuple #[.int .i64 x, .bool t] ∧ I64 x) ∧ St w0 F w' L := by
  refine s44 _ ?_
  unfold m44
  unfold m44_0
  refine new_ok (bx46 _ _ _ _) hS ?_
  intro b1 w hS
  unfold m44_1
  first | refine valP_ok (fa46_2 _ _) ?_ | refine valP_ok (fao46_2 _ _ _) ?_
  first | refine valP_ok (ld9 (hS.cell 0 rfl rfl)) ?_ | refine valP_ok (ld9 (hS.cell 1 rfl rfl)) ?_ | refine valP_ok (ld9 (hS.cell 2 rfl rfl)) ?_ | refine valP_ok (ld9 (hS.cell 3 rfl rfl)) ?_ | refine valP_ok (ld9 (hS.cell 4 rfl rfl)) ?_ | refine valP_ok (ld9 (hS.cell 5 rfl rfl)) ?_ | refine valP_ok (ld9 (hS.cell 6 rfl rfl)) ?_ | refine valP_ok (ld9 (hS.cell 7 rfl rfl)) ?_ | refine valP_ok (ld9 (by assumption)) ?_
  refine callR (by kernel_rfl) (rtake_ret hS) ?_
  rintro _ w ⟨rfl, hS⟩
  have leaf : ∀ (x : Int) (t : Bool), I64 x → m44_3 (fun v w' => (∃ x t, v = .tuple #[.int .i64 x, .bool t] ∧ I64 x) ∧ St w0 F w' L) (.int .i64 x) (.bool t) w := fun x t hx => by
    unfold m44_3
    exact ⟨⟨x, t, rfl, hx⟩, hS.tail⟩
  unfold tkV
  cases htk : takeS r.text with
  | none =>
    simp only
    refine valP_ok (extract_ok _ 0 rfl _) ?_
    refine valP_ok (extract_ok _ 1 rfl _) ?_
    refine valP_ok (extract_ok _ 2 rfl _) ?_
    have h0 : I64 0 := by omega
    unfold m44_2
    refine valP_ok (eq3 _ _ _ _ _) ?_
    first | refine cond_split (fun hc0 => ?_) (fun hc0 => ?_) | refine cond_bsplit (fun hc0 => ?_) (fun hc0 => ?_)
    · refine valP_ok (eq9 _ _ _ _ _) ?_
      first | refine pick_dt (by first | assumption | omega) ?_ | refine pick_df (by first | assumption | omega) ?_ | refine pick_t (by first | rfl | assumption) ?_ | refine pick_f (by first | rfl | assumption) ?_ | refine pick_dt rfl ?_ | refine pick_df (not_not_intro rfl) ?_
      exact leaf _ _ h0
    · first | refine pick_dt (by first | assumption | omega) ?_ | refine pick_df (by first | assumption | omega) ?_ | refine pick_t (by first | rfl | assumption) ?_ | refine pick_f (by first | rfl | assumption) ?_ | refine pick_dt rfl ?_ | refine pick_df (not_not_intro rfl) ?_
      exact leaf _ _ h0
  | some p =>
    obtain ⟨n, x⟩ := p
    simp only
    refine valP_ok (extract_ok _ 0 rfl _) ?_
    refine valP_ok (extract_ok _ 1 rfl _) ?_
    refine valP_ok (extract_ok _ 2 rfl _) ?_
    have h0 : I64 n := takeS_rng htk
    unfold m44_2
    refine valP_ok (eq3 _ _ _ _ _) ?_
    refine cond_split (fun h => ?_) (fun h => absurd rfl h)
    refine valP_ok (eq9 _ _ _ _ _) ?_
    first | refine pick_dt (by first | assumption | omega) ?_ | refine pick_df (by first | assumption | omega) ?_ | refine pick_t (by first | rfl | assumption) ?_ | refine pick_f (by first | rfl | assumption) ?_ | refine pick_dt rfl ?_ | refine pick_df (not_not_intro rfl) ?_
    exact leaf _ _ h0
end

end Go.Proofs.Ytnhgdngbdoifnaa.M
