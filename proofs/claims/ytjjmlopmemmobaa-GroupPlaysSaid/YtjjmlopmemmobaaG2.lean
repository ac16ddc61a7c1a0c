/- A group's members found, dropped; a generation; New, Gen, Next, Members, Owners. -/
import Derived.Test.YtjjmlopmemmobaaG1
namespace Go.Proofs.Ytjjmlopmemmobaa.M
open Go.Proofs.Ytjjmlopmemmobaa.F Go.RowKit
set_option linter.unusedVariables false
set_option linter.unusedSimpArgs false
set_option maxRecDepth 100000
set_option maxHeartbeats 2000000
attribute [local irreducible] Res.cells Res.row Res.map Res.any World.cell? World.frozen? Instr.fieldAt Instr.loadAt Instr.storeAt Instr.indexAt Instr.lookup Instr.mapUpdate Instr.box Instr.build Instr.buildSlice Instr.extract Instr.alloc Instr.field Instr.index Instr.sliceAt Instr.makeSlice Instr.makeMap Instr.makeFunc binS Op.unary Sem.run
open Go.Proofs.Ytjjmlopmemmobaa.L Go.Shelf
/-- A group. -/
structure GS where
  parts : Int
  sticky : Bool
  g : Int
  n : Int
  now : Int
  L : List Mem
  O : List Int
structure GA where
  m : Option Addr
  cm : Nat
  o : Option Addr
  co : Nat
abbrev grpC (t b : Nat) (s : GS) (X : GA) : Res := Res.cells b t [.int .i64 s.parts, .bool s.sticky, .int .i64 s.g, .int .i64 s.n, .int .i64 s.now, .slice X.m s.L.length X.cm, .slice X.o s.O.length X.co]
abbrev grpL (t b : Nat) (s : GS) (X : GA) : List Res := [grpC t b s X, mrow (.slice X.m s.L.length X.cm) s.L, irow (.slice X.o s.O.length X.co) s.O]
/-- where the member of a number stands. -/
def atL : List Mem → Int → Option Nat
  | [], _ => none
  | m :: l, id => if m.id = id then some 0 else (atL l id).map (· + 1)
theorem atL_none {id : Int} : ∀ {l : List Mem}, (∀ m ∈ l, m.id ≠ id) → atL l id = none
  | [], _ => rfl
  | m :: l, h => by unfold atL; rw [if_neg (h m (.head _)), atL_none fun x hx => h x (.tail _ hx)]; rfl
theorem atL_some {id : Int} : ∀ {l : List Mem} (i : Nat) (h : i < l.length), l[i].id = id → (∀ m ∈ l.take i, m.id ≠ id) → atL l id = some i
  | m :: l, 0, _, e, _ => by unfold atL; exact if_pos e
  | m :: l, i + 1, h, e, hn => by
    unfold atL
    rw [if_neg (hn m (by simp)), atL_some i (by simpa using h) e fun x hx => hn x (by simp [hx])]
    rfl
theorem atL_spec {id : Int} : ∀ {l : List Mem} {i : Nat}, atL l id = some i → ∃ h : i < l.length, l[i].id = id ∧ ∀ m ∈ l.take i, m.id ≠ id
  | [], i, h => by cases h
  | m :: l, i, h => by
    unfold atL at h
    split at h
    · rename_i e
      injection h with h
      subst h
      exact ⟨by simp, e, by simp⟩
    · rename_i e
      cases hh : atL l id with
      | none => rw [hh] at h; cases h
      | some j =>
        rw [hh] at h
        injection h with h
        simp only at h
        subst h
        obtain ⟨h1, h2, h3⟩ := atL_spec hh
        refine ⟨by simpa using h1, by simpa using h2, fun x hx => ?_⟩
        rw [List.take_succ_cons] at hx
        rcases List.mem_cons.1 hx with rfl | hx
        · exact e
        · exact h3 x hx
theorem atL_no {id : Int} : ∀ {l : List Mem}, atL l id = none → ∀ m ∈ l, m.id ≠ id
  | [], _, m, h => by cases h
  | a :: l, h, m, hm => by
    unfold atL at h
    split at h
    · cases h
    · rename_i e
      rcases List.mem_cons.1 hm with rfl | hm
      · exact e
      · refine atL_no ?_ m hm
        cases hh : atL l id with
        | none => rfl
        | some j => rw [hh] at h; cases h
def FoundM (A : Option Addr) (l : List Mem) (id : Int) (v : Value) : Prop := match atL l id with
  | none => v = .pointer none
  | some i => ∃ g, A = some ⟨g, 0, none⟩ ∧ i < l.length ∧ v = .pointer (some ⟨g, i * 3, none⟩)
theorem find_ret {w0 w : World} {F : List Nat} {L : List Res} {b : Nat} {s : GS} {X : GA} (hl : s.L.length ≤ 1000) (hS : St w0 F w (grpL 103 b s X ++ L)) (id : Int) :
    Ret Try.prog 70 #[.pointer (some ⟨b, 0, none⟩), .int .i64 id] w fun v w' => FoundM X.m s.L id v ∧ w' = w := by
  refine s70 _ _ ?_
  unfold m70
  unfold m70_0
  unfold m70_1
  first | refine valP_ok (ne59n _ _ _) ?_ | refine valP_ok (ne59s _ _ _ _) ?_
  unfold m70_4
  refine cond_t rfl ?_
  refine nil_ok ?_
  first | refine valP_ok (fa103_5 _ _) ?_ | refine valP_ok (fao103_5 _ _ _) ?_
  first | refine valP_ok (ld66 (hS.cell 0 rfl rfl)) ?_ | refine valP_ok (ld66 (hS.cell 1 rfl rfl)) ?_ | refine valP_ok (ld66 (hS.cell 2 rfl rfl)) ?_ | refine valP_ok (ld66 (hS.cell 3 rfl rfl)) ?_ | refine valP_ok (ld66 (hS.cell 4 rfl rfl)) ?_ | refine valP_ok (ld66 (by assumption)) ?_
  refine builtin_ok (len66 _) ?_
  unfold m70_5
  refine loop_in (fun u w' => ∃ i : Nat, u = .int .i64 i ∧ i ≤ s.L.length ∧ (∀ m ∈ s.L.take i, m.id ≠ id) ∧ w' = w) (fun u _ => s.L.length - (intOf u).toNat) ⟨0, rfl, by omega, by simp, rfl⟩ ?_
  rintro u w ⟨i, rfl, hi, hn, rfl⟩
  unfold m70_6
  refine valP_ok (lss_ok _ _ _ _ _ _ _) ?_
  unfold m70_7
  refine cond_split (fun h => ?_) (fun h => ?_)
  · have hlt : i < s.L.length := by omega
    obtain ⟨m, cm, o, co⟩ := X
    obtain ⟨g, hg⟩ := hS.row_ptr 1 rfl (by omega)
    simp only at hg
    subst hg
    have h0 := hS.row_struct 1 encM_len rfl hlt (j := 0) (by omega) rfl
    rw [Nat.add_zero] at h0
    unfold m70_8
    unfold m70_10
    refine nil_ok ?_
    first | refine valP_ok (fa103_5 _ _) ?_ | refine valP_ok (fao103_5 _ _ _) ?_
    first | refine valP_ok (ld66 (hS.cell 0 rfl rfl)) ?_ | refine valP_ok (ld66 (hS.cell 1 rfl rfl)) ?_ | refine valP_ok (ld66 (hS.cell 2 rfl rfl)) ?_ | refine valP_ok (ld66 (hS.cell 3 rfl rfl)) ?_ | refine valP_ok (ld66 (hS.cell 4 rfl rfl)) ?_ | refine valP_ok (ld66 (by assumption)) ?_
    first | refine valP_ok (ixz66 (by first | assumption | omega) _) ?_ | refine valP_ok (ix66 (by first | assumption | omega) _) ?_
    first | refine valP_ok (fa69_0 _ _) ?_ | refine valP_ok (fao69_0 _ _ _) ?_
    refine valP_ok (ld3 h0) ?_
    refine valP_ok (eq3 _ _ _ _ _) ?_
    unfold m70_11
    refine cond_split (fun e => ?_) (fun e => ?_)
    · refine nil_ok ?_
      first | refine valP_ok (fa103_5 _ _) ?_ | refine valP_ok (fao103_5 _ _ _) ?_
      first | refine valP_ok (ld66 (hS.cell 0 rfl rfl)) ?_ | refine valP_ok (ld66 (hS.cell 1 rfl rfl)) ?_ | refine valP_ok (ld66 (hS.cell 2 rfl rfl)) ?_ | refine valP_ok (ld66 (hS.cell 3 rfl rfl)) ?_ | refine valP_ok (ld66 (hS.cell 4 rfl rfl)) ?_ | refine valP_ok (ld66 (by assumption)) ?_
      first | refine valP_ok (ixz66 (by first | assumption | omega) _) ?_ | refine valP_ok (ix66 (by first | assumption | omega) _) ?_
      unfold m70_12
      refine ⟨?_, rfl⟩
      unfold FoundM
      rw [atL_some i hlt e hn]
      exact ⟨g, rfl, hlt, rfl⟩
    · unfold m70_9
      refine valP_ok (add_ok _ _ _ (by omega) (by omega) _) ?_
      refine ⟨⟨i + 1, rfl, by omega, ?_, rfl⟩, by simp [intOf]; omega⟩
      rw [List.take_succ_eq_append_getElem hlt]
      intro m hm
      rcases List.mem_append.1 hm with h | h
      · exact hn m h
      · rw [List.mem_singleton.1 h]; exact e
  · have hi2 : i = s.L.length := by omega
    rw [hi2, List.take_length] at hn
    unfold m70_2 m70_3
    refine ⟨?_, rfl⟩
    unfold FoundM
    rw [atL_none hn]
theorem spent_ret {w0 w : World} {F : List Nat} {L : List Res} {b : Nat} {s : GS} {X : GA} (hS : St w0 F w (grpL 103 b s X ++ L)) :
    Ret Try.prog 71 #[.pointer (some ⟨b, 0, none⟩)] w fun v w' => v = .bool (decide (s.g ≥ 1099511627776)) ∧ w' = w := by
  refine s71 _ ?_
  unfold m71
  unfold m71_0
  unfold m71_1
  refine nil_ok ?_
  first | refine valP_ok (fa103_2 _ _) ?_ | refine valP_ok (fao103_2 _ _ _) ?_
  first | refine valP_ok (ld3 (hS.cell 0 rfl rfl)) ?_ | refine valP_ok (ld3 (hS.cell 1 rfl rfl)) ?_ | refine valP_ok (ld3 (hS.cell 2 rfl rfl)) ?_ | refine valP_ok (ld3 (hS.cell 3 rfl rfl)) ?_ | refine valP_ok (ld3 (hS.cell 4 rfl rfl)) ?_ | refine valP_ok (ld3 (by assumption)) ?_
  refine valP_ok (geq_ok _ _ _ _ _ _ _) ?_
  unfold m71_2
  exact ⟨rfl, rfl⟩
theorem drop_ret {w0 w : World} {F : List Nat} {L : List Res} {b : Nat} {s : GS} {X : GA} {f : FuncId} {cap : Array Value} {p : Mem → Bool} (hf : callsOk Try.prog f = true) (hl : s.L.length ≤ 1000) (hS : St w0 F w (grpL 103 b s X ++ L))
    (hp : AsksM w0 F (grpL 103 b s X ++ L) 1 X.m s.L.length X.cm f cap p) :
    Ret Try.prog 72 #[.pointer (some ⟨b, 0, none⟩), .func (.func f) #[] cap] w fun v w' => v = .bool (decide ((s.L.filter fun x => !p x).length < s.L.length)) ∧ St w0 F w' (grpL 103 b { s with L := s.L.filter fun x => !p x } X ++ L) := by
  refine s72 _ _ ?_
  unfold m72
  unfold m72_0
  unfold m72_1
  refine nil_ok ?_
  first | refine valP_ok (fa103_5 _ _) ?_ | refine valP_ok (fao103_5 _ _ _) ?_
  first | refine valP_ok (ld66 (hS.cell 0 rfl rfl)) ?_ | refine valP_ok (ld66 (hS.cell 1 rfl rfl)) ?_ | refine valP_ok (ld66 (hS.cell 2 rfl rfl)) ?_ | refine valP_ok (ld66 (hS.cell 3 rfl rfl)) ?_ | refine valP_ok (ld66 (hS.cell 4 rfl rfl)) ?_ | refine valP_ok (ld66 (by assumption)) ?_
  refine builtin_ok (len66 _) ?_
  unfold m72_2
  refine nil_ok ?_
  first | refine valP_ok (fa103_5 _ _) ?_ | refine valP_ok (fao103_5 _ _ _) ?_
  first | refine valP_ok (ld66 (hS.cell 0 rfl rfl)) ?_ | refine valP_ok (ld66 (hS.cell 1 rfl rfl)) ?_ | refine valP_ok (ld66 (hS.cell 2 rfl rfl)) ?_ | refine valP_ok (ld66 (hS.cell 3 rfl rfl)) ?_ | refine valP_ok (ld66 (hS.cell 4 rfl rfl)) ?_ | refine valP_ok (ld66 (by assumption)) ?_
  refine callR (by kernel_rfl) (delM_ret hf (by omega) hS rfl hp) ?_
  rintro v w ⟨rfl, hS⟩
  simp only [List.cons_append, List.nil_append, List.set_cons_zero, List.set_cons_succ] at hS
  refine nil_ok ?_
  first | refine valP_ok (fa103_5 _ _) ?_ | refine valP_ok (fao103_5 _ _ _) ?_
  first | refine store_at 0 st66 hS rfl (by simp) rfl ?_ | refine store_at 1 st66 hS rfl (by simp) rfl ?_ | refine store_at 2 st66 hS rfl (by simp) rfl ?_ | refine store_at 3 st66 hS rfl (by simp) rfl ?_ | refine store_at 4 st66 hS rfl (by simp) rfl ?_
  intro w hS
  simp only [List.set_cons_zero, List.set_cons_succ] at hS
  unfold m72_3
  refine nil_ok ?_
  first | refine valP_ok (fa103_5 _ _) ?_ | refine valP_ok (fao103_5 _ _ _) ?_
  first | refine valP_ok (ld66 (hS.cell 0 rfl rfl)) ?_ | refine valP_ok (ld66 (hS.cell 1 rfl rfl)) ?_ | refine valP_ok (ld66 (hS.cell 2 rfl rfl)) ?_ | refine valP_ok (ld66 (hS.cell 3 rfl rfl)) ?_ | refine valP_ok (ld66 (hS.cell 4 rfl rfl)) ?_ | refine valP_ok (ld66 (by assumption)) ?_
  refine builtin_ok (len66 _) ?_
  refine valP_ok (lss_ok _ _ _ _ _ _ _) ?_
  unfold m72_4
  refine ⟨?_, hS⟩
  congr 1
  rw [decide_eq_decide]
  omega
abbrev idsL (l : List Mem) : List Int := l.map (·.id)
def ownL (s : GS) : List Int := if s.sticky then stickyL s.parts (membersL (idsL s.L)) s.O else rangeL s.parts (membersL (idsL s.L))
def gturned (s : GS) : GS := { s with g := s.g + 1, O := ownL s }
/-- What a group is ahead of a turn. -/
structure GPre (s : GS) : Prop where
  parts : 1 ≤ s.parts ∧ s.parts ≤ 4
  len : s.L.length ≤ 900
  each : ∀ m ∈ s.L, 1 ≤ m.id ∧ m.id ≤ 1099511627776
  bO : ∀ x ∈ s.O, 0 ≤ x ∧ x ≤ 1099511627776
  g0 : 0 ≤ s.g ∧ s.g ≤ 1099511627776
theorem gturn_ret {w0 w : World} {F : List Nat} {L : List Res} {b : Nat} {s : GS} {X : GA} (hs : GPre s) (hS : St w0 F w (grpL 103 b s X ++ L)) :
    Ret Try.prog 74 #[.pointer (some ⟨b, 0, none⟩)] w fun v w' => ∃ X', St w0 F w' (grpL 103 b (gturned s) X' ++ L) := by
  have hg := hs.g0
  have hp := hs.parts
  have hlen := hs.len
  refine s74 _ ?_
  unfold m74
  unfold m74_0
  have hS := hS.row_nil 3 1
  unfold m74_1
  refine nil_ok ?_
  first | refine valP_ok (fa103_5 _ _) ?_ | refine valP_ok (fao103_5 _ _ _) ?_
  first | refine valP_ok (ld66 (hS.cell 0 rfl rfl)) ?_ | refine valP_ok (ld66 (hS.cell 1 rfl rfl)) ?_ | refine valP_ok (ld66 (hS.cell 2 rfl rfl)) ?_ | refine valP_ok (ld66 (hS.cell 3 rfl rfl)) ?_ | refine valP_ok (ld66 (hS.cell 4 rfl rfl)) ?_ | refine valP_ok (ld66 (by assumption)) ?_
  refine builtin_ok (len66 _) ?_
  unfold m74_5
  refine loop_in (fun u w' => ∃ (i : Nat) (A : Option Addr) (c : Nat), u = (.slice A (idsL (s.L.take i)).length c, .int .i64 i) ∧ i ≤ s.L.length ∧ St w0 F w' (irow (.slice A (idsL (s.L.take i)).length c) (idsL (s.L.take i)) :: (grpL 103 b s X ++ L))) (fun u _ => s.L.length - (intOf u.2).toNat) ⟨0, none, 0, rfl, by omega, hS⟩ ?_
  clear hS
  rintro u w ⟨i, A, c, rfl, hi, hS⟩
  unfold m74_6
  refine valP_ok (lss_ok _ _ _ _ _ _ _) ?_
  unfold m74_7
  simp only
  refine cond_split (fun h => ?_) (fun h => ?_)
  · have hlt : i < s.L.length := by omega
    obtain ⟨m, cm, o, co⟩ := X
    obtain ⟨g, hg2⟩ := hS.row_ptr 2 rfl (by omega)
    simp only at hg2
    subst hg2
    have h0 := hS.row_struct 2 encM_len rfl hlt (j := 0) (by omega) rfl
    have h1 := hS.row_struct 2 encM_len rfl hlt (j := 1) (by omega) rfl
    have h2 := hS.row_struct 2 encM_len rfl hlt (j := 2) (by omega) rfl
    have hlt2 : (idsL (s.L.take i)).length ≤ 1000000 := by simp; omega
    unfold m74_8
    refine valP_ok (ixz66 hlt _) ?_
    refine valP_ok (ld69 h0 h1 h2) ?_
    refine new_ok (al69 _) hS ?_
    intro b4 w hS
    refine ss69 0 hS rfl rfl rfl rfl ?_
    intro w hS
    simp only [List.set_cons_zero] at hS
    unfold m74_10
    first | refine valP_ok (fa69_0 _ _) ?_ | refine valP_ok (fao69_0 _ _ _) ?_
    first | refine valP_ok (ld3 (hS.cell 0 rfl rfl)) ?_ | refine valP_ok (ld3 (hS.cell 1 rfl rfl)) ?_ | refine valP_ok (ld3 (hS.cell 2 rfl rfl)) ?_ | refine valP_ok (ld3 (hS.cell 3 rfl rfl)) ?_ | refine valP_ok (ld3 (hS.cell 4 rfl rfl)) ?_ | refine valP_ok (ld3 (by assumption)) ?_
    refine newslice_ok (bs28_1 rfl _) hS ?_
    intro b17 w hS
    refine append_one 1 hlt2 hS rfl ?_
    intro A' c' w hS
    simp only [List.set_cons_zero, List.set_cons_succ] at hS
    have hS := hS.tail
    unfold m74_9
    refine valP_ok (add_ok _ _ _ (by omega) (by omega) _) ?_
    have e : idsL (s.L.take i) ++ [s.L[i].id] = idsL (s.L.take (i + 1)) := by rw [List.take_succ_eq_append_getElem hlt]; show _ = List.map _ _; rw [List.map_append]; rfl
    rw [e] at hS
    rw [e]
    exact ⟨⟨i + 1, A', c', rfl, by omega, hS⟩, by simp [intOf]; omega⟩
  · have hi2 : i = s.L.length := by omega
    subst hi2
    rw [List.take_length] at hS
    rw [List.take_length]
    unfold m74_2
    refine nil_ok ?_
    first | refine valP_ok (fa103_2 _ _) ?_ | refine valP_ok (fao103_2 _ _ _) ?_
    first | refine valP_ok (ld3 (hS.cell 0 rfl rfl)) ?_ | refine valP_ok (ld3 (hS.cell 1 rfl rfl)) ?_ | refine valP_ok (ld3 (hS.cell 2 rfl rfl)) ?_ | refine valP_ok (ld3 (hS.cell 3 rfl rfl)) ?_ | refine valP_ok (ld3 (hS.cell 4 rfl rfl)) ?_ | refine valP_ok (ld3 (by assumption)) ?_
    refine valP_ok (add_ok _ _ _ (by omega) (by omega) _) ?_
    refine nil_ok ?_
    first | refine valP_ok (fa103_2 _ _) ?_ | refine valP_ok (fao103_2 _ _ _) ?_
    first | refine store_at 0 st3 hS rfl (by simp) rfl ?_ | refine store_at 1 st3 hS rfl (by simp) rfl ?_ | refine store_at 2 st3 hS rfl (by simp) rfl ?_ | refine store_at 3 st3 hS rfl (by simp) rfl ?_ | refine store_at 4 st3 hS rfl (by simp) rfl ?_
    intro w hS
    simp only [List.set_cons_zero, List.set_cons_succ] at hS
    have hS : St w0 F w (irow (.slice A (idsL s.L).length c) (idsL s.L) :: Res.cells b 103 [.int .i64 s.parts, .bool s.sticky, .int .i64 (s.g + 1), .int .i64 s.n, .int .i64 s.now, .slice X.m s.L.length X.cm, .slice X.o s.O.length X.co] :: mrow (.slice X.m s.L.length X.cm) s.L :: irow (.slice X.o s.O.length X.co) s.O :: L) := hS
    unfold m74_3
    refine nil_ok ?_
    first | refine valP_ok (fa103_1 _ _) ?_ | refine valP_ok (fao103_1 _ _ _) ?_
    first | refine valP_ok (ld4 (hS.cell 0 rfl rfl)) ?_ | refine valP_ok (ld4 (hS.cell 1 rfl rfl)) ?_ | refine valP_ok (ld4 (hS.cell 2 rfl rfl)) ?_ | refine valP_ok (ld4 (hS.cell 3 rfl rfl)) ?_ | refine valP_ok (ld4 (hS.cell 4 rfl rfl)) ?_ | refine valP_ok (ld4 (by assumption)) ?_
    have hbad : ¬ badParts s.parts := by unfold badParts; omega
    have hz : (idsL s.L).length ≤ 1000 := by simp; omega
    have hzb : ∀ x ∈ idsL s.L, -9223372036854775808 ≤ x ∧ x ≤ 9223372036854775807 := fun x hx => by
      obtain ⟨m, hm, rfl⟩ := List.mem_map.1 hx
      have := hs.each m hm
      omega
    have hob : ∀ x ∈ s.O, -9223372036854775808 ≤ x ∧ x ≤ 9223372036854775807 := fun x hx => by have := hs.bO x hx; omega
    unfold m74_4
    refine cond_bsplit (fun hst => ?_) (fun hst => ?_)
    · have fin : ∀ w' A2 c2, St w0 F w' (irow (.slice A2 (stickyL s.parts (membersL (idsL s.L)) s.O).length c2) (stickyL s.parts (membersL (idsL s.L)) s.O) :: irow (.slice A (idsL s.L).length c) (idsL s.L) ::
          Res.cells b 103 [.int .i64 s.parts, .bool s.sticky, .int .i64 (s.g + 1), .int .i64 s.n, .int .i64 s.now, .slice X.m s.L.length X.cm, .slice A2 (stickyL s.parts (membersL (idsL s.L)) s.O).length c2] :: mrow (.slice X.m s.L.length X.cm) s.L :: irow (.slice X.o s.O.length X.co) s.O :: L) →
          ∃ X', St w0 F w' (grpL 103 b (gturned s) X' ++ L) := fun w' A2 c2 hS => by
        have hS : St w0 F w' (Res.cells b 103 [.int .i64 s.parts, .bool s.sticky, .int .i64 (s.g + 1), .int .i64 s.n, .int .i64 s.now, .slice X.m s.L.length X.cm, .slice A2 (stickyL s.parts (membersL (idsL s.L)) s.O).length c2] :: mrow (.slice X.m s.L.length X.cm) s.L :: irow (.slice A2 (stickyL s.parts (membersL (idsL s.L)) s.O).length c2) (stickyL s.parts (membersL (idsL s.L)) s.O) :: L) := hS.pick 5 [2, 3, 0] (by simp) (by decide)
        refine ⟨⟨X.m, X.cm, A2, c2⟩, ?_⟩
        have e : ownL s = stickyL s.parts (membersL (idsL s.L)) s.O := by unfold ownL; rw [hst]; rfl
        unfold gturned
        simp only [grpL, grpC, e]
        exact hS
      refine drawn_ok hS ?_
      intro w hS
      refine nil_ok ?_
      first | refine pureP_ok (fa103_0 _) ?_ | refine pureP_ok (fao103_0 _ _) ?_
      refine nil_ok ?_
      first | refine pureP_ok (fa103_6 _) ?_ | refine pureP_ok (fao103_6 _ _) ?_
      refine ⟨?_, ?_⟩
      · first | refine valP_ok (ld3 (hS.cell 0 rfl rfl)) ?_ | refine valP_ok (ld3 (hS.cell 1 rfl rfl)) ?_ | refine valP_ok (ld3 (hS.cell 2 rfl rfl)) ?_ | refine valP_ok (ld3 (hS.cell 3 rfl rfl)) ?_ | refine valP_ok (ld3 (hS.cell 4 rfl rfl)) ?_ | refine valP_ok (ld3 (by assumption)) ?_
        first | refine valP_ok (ld28 (hS.cell 0 rfl rfl)) ?_ | refine valP_ok (ld28 (hS.cell 1 rfl rfl)) ?_ | refine valP_ok (ld28 (hS.cell 2 rfl rfl)) ?_ | refine valP_ok (ld28 (hS.cell 3 rfl rfl)) ?_ | refine valP_ok (ld28 (hS.cell 4 rfl rfl)) ?_ | refine valP_ok (ld28 (by assumption)) ?_
        refine callR (by kernel_rfl) (sticky_ret (by omega) (by omega) hS (Bes.of_row 0 rfl) (Bes.of_row 3 rfl) hz hzb hob) ?_
        intro v w hv
        rw [if_neg hbad] at hv
        obtain ⟨A2, c2, rfl, hS⟩ := hv
        refine pureP_ok (extract_ok _ 0 rfl) ?_
        refine pureP_ok (extract_ok _ 1 rfl) ?_
        refine nil_ok ?_
        first | refine pureP_ok (fa103_6 _) ?_ | refine pureP_ok (fao103_6 _ _) ?_
        first | refine store_at 0 st28 hS rfl (by simp) rfl ?_ | refine store_at 1 st28 hS rfl (by simp) rfl ?_ | refine store_at 2 st28 hS rfl (by simp) rfl ?_ | refine store_at 3 st28 hS rfl (by simp) rfl ?_ | refine store_at 4 st28 hS rfl (by simp) rfl ?_
        intro w hS
        simp only [List.set_cons_zero, List.set_cons_succ] at hS
        exact fin _ _ _ hS
      · first | refine valP_ok (ld28 (hS.cell 0 rfl rfl)) ?_ | refine valP_ok (ld28 (hS.cell 1 rfl rfl)) ?_ | refine valP_ok (ld28 (hS.cell 2 rfl rfl)) ?_ | refine valP_ok (ld28 (hS.cell 3 rfl rfl)) ?_ | refine valP_ok (ld28 (hS.cell 4 rfl rfl)) ?_ | refine valP_ok (ld28 (by assumption)) ?_
        first | refine valP_ok (ld3 (hS.cell 0 rfl rfl)) ?_ | refine valP_ok (ld3 (hS.cell 1 rfl rfl)) ?_ | refine valP_ok (ld3 (hS.cell 2 rfl rfl)) ?_ | refine valP_ok (ld3 (hS.cell 3 rfl rfl)) ?_ | refine valP_ok (ld3 (hS.cell 4 rfl rfl)) ?_ | refine valP_ok (ld3 (by assumption)) ?_
        refine callR (by kernel_rfl) (sticky_ret (by omega) (by omega) hS (Bes.of_row 0 rfl) (Bes.of_row 3 rfl) hz hzb hob) ?_
        intro v w hv
        rw [if_neg hbad] at hv
        obtain ⟨A2, c2, rfl, hS⟩ := hv
        refine pureP_ok (extract_ok _ 0 rfl) ?_
        refine pureP_ok (extract_ok _ 1 rfl) ?_
        refine nil_ok ?_
        first | refine pureP_ok (fa103_6 _) ?_ | refine pureP_ok (fao103_6 _ _) ?_
        first | refine store_at 0 st28 hS rfl (by simp) rfl ?_ | refine store_at 1 st28 hS rfl (by simp) rfl ?_ | refine store_at 2 st28 hS rfl (by simp) rfl ?_ | refine store_at 3 st28 hS rfl (by simp) rfl ?_ | refine store_at 4 st28 hS rfl (by simp) rfl ?_
        intro w hS
        simp only [List.set_cons_zero, List.set_cons_succ] at hS
        exact fin _ _ _ hS
    · refine nil_ok ?_
      first | refine valP_ok (fa103_0 _ _) ?_ | refine valP_ok (fao103_0 _ _ _) ?_
      first | refine valP_ok (ld3 (hS.cell 0 rfl rfl)) ?_ | refine valP_ok (ld3 (hS.cell 1 rfl rfl)) ?_ | refine valP_ok (ld3 (hS.cell 2 rfl rfl)) ?_ | refine valP_ok (ld3 (hS.cell 3 rfl rfl)) ?_ | refine valP_ok (ld3 (hS.cell 4 rfl rfl)) ?_ | refine valP_ok (ld3 (by assumption)) ?_
      refine callR (by kernel_rfl) (range_ret (by omega) (by omega) hS (Bes.of_row 0 rfl) hz hzb) ?_
      intro v w hv
      rw [if_neg hbad] at hv
      obtain ⟨A2, c2, rfl, hS⟩ := hv
      refine valP_ok (extract_ok _ 0 rfl _) ?_
      refine valP_ok (extract_ok _ 1 rfl _) ?_
      refine nil_ok ?_
      first | refine valP_ok (fa103_6 _ _) ?_ | refine valP_ok (fao103_6 _ _ _) ?_
      first | refine store_at 0 st28 hS rfl (by simp) rfl ?_ | refine store_at 1 st28 hS rfl (by simp) rfl ?_ | refine store_at 2 st28 hS rfl (by simp) rfl ?_ | refine store_at 3 st28 hS rfl (by simp) rfl ?_ | refine store_at 4 st28 hS rfl (by simp) rfl ?_
      intro w hS
      simp only [List.set_cons_zero, List.set_cons_succ] at hS
      have hS : St w0 F w (Res.cells b 103 [.int .i64 s.parts, .bool s.sticky, .int .i64 (s.g + 1), .int .i64 s.n, .int .i64 s.now, .slice X.m s.L.length X.cm, .slice A2 (rangeL s.parts (membersL (idsL s.L))).length c2] :: mrow (.slice X.m s.L.length X.cm) s.L :: irow (.slice A2 (rangeL s.parts (membersL (idsL s.L))).length c2) (rangeL s.parts (membersL (idsL s.L))) :: L) := hS.pick 5 [2, 3, 0] (by simp) (by decide)
      refine ⟨⟨X.m, X.cm, A2, c2⟩, ?_⟩
      have e : ownL s = rangeL s.parts (membersL (idsL s.L)) := by unfold ownL; rw [hst]; rfl
      unfold gturned
      simp only [grpL, grpC, e]
      exact hS

end Go.Proofs.Ytjjmlopmemmobaa.M
