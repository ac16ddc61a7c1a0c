/- Lists of sessions; whether two are the same; what is near any of them. -/
import Derived.Test.YtojgdmcojmllkaaS5
namespace Go.Proofs.Ytojgdmcojmllkaa.M
open Go.Proofs.Ytojgdmcojmllkaa.F Go.RowKit
set_option linter.unusedVariables false
set_option linter.unusedSimpArgs false
set_option maxRecDepth 100000
set_option maxHeartbeats 2000000
attribute [local irreducible] Res.cells Res.row Res.map Res.any World.cell? World.frozen? Instr.fieldAt Instr.loadAt Instr.storeAt Instr.indexAt Instr.lookup Instr.mapUpdate Instr.box Instr.build Instr.buildSlice Instr.extract Instr.alloc Instr.field Instr.index Instr.sliceAt Instr.makeSlice Instr.makeMap Instr.makeFunc binS Op.unary Sem.run
structure Se where
  key : Int
  l : List Ev
deriving DecidableEq
structure Sq where
  s : Se
  A : Option Addr
  c : Nat
abbrev encS (x : Sq) : List Value := [.int .i64 x.s.key, .slice x.A x.s.l.length x.c]
theorem encS_len : ∀ x, (encS x).length = 2 := fun _ => rfl
abbrev sv (x : Sq) : Value := spv x.s.key x.A x.s.l.length x.c
abbrev ses (l : List Sq) : List Se := l.map (·.s)
structure BesS (w0 : World) (F : List Nat) (L : List Res) (A : Option Addr) (l : List Sq) : Prop where
  row : Bes w0 F L 2 A l.length (l.flatMap encS)
  evs : ∀ s ∈ l, BE w0 F L s.A s.s.l
  max : l.length ≤ 140737488351232
  emax : ∀ s ∈ l, s.s.l.length ≤ 140737488351232
theorem BesS.mono {w0 : World} {F : List Nat} {L L' : List Res} {A : Option Addr} {l : List Sq} (h : BesS w0 F L A l) (hL : ∀ r ∈ L, r ∈ L') : BesS w0 F L' A l :=
  ⟨h.row.mono hL, fun s hs => (h.evs s hs).mono hL, h.max, h.emax⟩
theorem BesS.cons {w0 : World} {F : List Nat} {L : List Res} {A : Option Addr} {l : List Sq} (h : BesS w0 F L A l) (a : Res) : BesS w0 F (a :: L) A l := h.mono fun r hr => .tail _ hr
theorem ix31A {A : Option Addr} {b o n c k : Nat} (hA : A = some ⟨b, o, none⟩) (h : k < n) (w : World) : (Instr.indexAt 31 (.slice A n c) (.int .i64 (k : Int))).run Try.prog w = .ok (.pointer (some ⟨b, o + k * 2, none⟩)) w := by
  subst hA
  exact ix31 h w
theorem se_ext {a b : Se} (hk : a.key = b.key) (hn : a.l.length = b.l.length) (h : ∀ i (h : i < a.l.length) (h' : i < b.l.length), a.l[i] = b.l[i]) : a = b := by
  obtain ⟨k, l⟩ := a
  obtain ⟨k2, l2⟩ := b
  obtain rfl : k = k2 := hk
  obtain rfl : l = l2 := List.ext_getElem hn h
  rfl
theorem ev_ext {a b : Ev} : a = b ↔ a.t = b.t ∧ a.v = b.v := by
  obtain ⟨t, v⟩ := a
  obtain ⟨t2, v2⟩ := b
  simp
section
variable {w0 w : World} {F : List Nat} {L : List Res} {A B : Option Addr} {c d : Nat} {l l2 : List Sq} {g : Gp}
theorem sp_at {b o i : Nat} (hr : Rd w 2 (some ⟨b, o, none⟩) l.length (l.flatMap encS)) (hi : i < l.length) : w.cell? ⟨b, o + i * 2, none⟩ = some (.int .i64 l[i].s.key) ∧ w.cell? ⟨b, o + i * 2 + 1, none⟩ = some (.slice l[i].A l[i].s.l.length l[i].c) :=
  ⟨hr.struct encS_len hi (j := 0) (by omega) rfl, hr.struct encS_len hi (j := 1) (by omega) rfl⟩
theorem samespans_ret (hS : St w0 F w L) (h1 : BesS w0 F L A l) (h2 : BesS w0 F L B l2) :
    Ret Try.prog 14 #[.slice A l.length c, .slice B l2.length d] w fun v w' => (∃ b, v = .bool b ∧ (b = true ↔ ses l = ses l2)) ∧ St w0 F w' L := by
  have hmax := h1.max
  have no : ∀ w, St w0 F w L → ses l ≠ ses l2 → (∃ b, Value.bool false = .bool b ∧ (b = true ↔ ses l = ses l2)) ∧ St w0 F w L := fun w hS h => ⟨⟨false, rfl, by simp [h]⟩, hS⟩
  refine s14 _ _ ?_
  unfold m14
  unfold m14_0
  unfold m14_1
  refine builtin_ok (len24 _) ?_
  refine builtin_ok (len24 _) ?_
  refine valP_ok (ne3 _ _ _ _ _) ?_
  unfold m14_20
  refine cond_split (fun hn => ?_) (fun hn => ?_)
  · unfold m14_21
    exact no _ hS fun h => hn (by have := congrArg List.length h; simp at this; omega)
  have hn : l.length = l2.length := by omega
  unfold m14_2 m14_5
  refine loop_in (fun u w' => ∃ i : Nat, u = .int .i64 i ∧ i ≤ l.length ∧ (∀ j (h : j < l.length) (h' : j < l2.length), j < i → l[j].s = l2[j].s) ∧ St w0 F w' L) (fun u _ => l.length - (intOf u).toNat) ⟨0, rfl, by omega, fun _ _ _ h => by omega, hS⟩ ?_
  clear hS
  rintro u w ⟨i, rfl, hi, hI, hS⟩
  unfold m14_6
  refine builtin_ok (len24 _) ?_
  refine valP_ok (lss_ok _ _ _ _ _ _ _) ?_
  unfold m14_19
  refine cond_split (fun h => ?_) (fun h => ?_)
  · have hlt : i < l.length := by omega
    have hlt2 : i < l2.length := by omega
    obtain ⟨b, o, rfl⟩ := (h1.row.rd hS).some_ (by omega) (by omega)
    obtain ⟨b2, o2, rfl⟩ := (h2.row.rd hS).some_ (by omega) (by omega)
    have p := sp_at (h1.row.rd hS) hlt
    have q := sp_at (h2.row.rd hS) hlt2
    have ne : ∀ w, St w0 F w L → l[i].s ≠ l2[i].s → (∃ b, Value.bool false = .bool b ∧ (b = true ↔ ses l = ses l2)) ∧ St w0 F w L := fun w hS h => no w hS fun e => h (by
      have : (ses l)[i]? = (ses l2)[i]? := by rw [e]
      simpa [hlt, hlt2] using this)
    unfold m14_7
    refine valQ_ok (ix24 hlt) ?_
    refine valQ_ok (fao33_0 _ _) ?_
    refine valQ_load ld3 p.1 ?_
    refine valQ_ok (ix24 hlt2) ?_
    refine valQ_ok (fao33_0 _ _) ?_
    refine valQ_load ld3 q.1 ?_
    refine valQ_ok (ne3 _ _ _ _) ?_
    refine cond_split (fun h3 => ?_) (fun h3 => ?_)
    · first | refine pick_dt (by first | assumption | omega) ?_ | refine pick_df (by first | assumption | omega) ?_ | refine pick_t (by first | rfl | assumption) ?_ | refine pick_f (by first | rfl | assumption) ?_ | refine pick_dt rfl ?_ | refine pick_df (not_not_intro rfl) ?_
      refine drawn_ok hS ?_
      intro w hS
      unfold m14_17
      refine cond_t rfl ?_
      unfold m14_18
      exact ne w hS fun e => h3 (by rw [e])
    · refine valQ_ok (ix24 hlt) ?_
      refine valQ_ok (fao33_1 _ _) ?_
      refine valQ_load ld31 p.2 ?_
      refine builtinQ_ok (len31) ?_
      refine valQ_ok (ix24 hlt2) ?_
      refine valQ_ok (fao33_1 _ _) ?_
      refine valQ_load ld31 q.2 ?_
      refine builtinQ_ok (len31) ?_
      refine valQ_ok (ne3 _ _ _ _) ?_
      first | refine pick_dt (by first | assumption | omega) ?_ | refine pick_df (by first | assumption | omega) ?_ | refine pick_t (by first | rfl | assumption) ?_ | refine pick_f (by first | rfl | assumption) ?_ | refine pick_dt rfl ?_ | refine pick_df (not_not_intro rfl) ?_
      refine drawn_ok hS ?_
      intro w hS
      unfold m14_17
      refine cond_split (fun h4 => ?_) (fun h4 => ?_)
      · unfold m14_18
        exact ne w hS fun e => h4 (by rw [e])
      · have hen : l[i].s.l.length = l2[i].s.l.length := by omega
        have hk : l[i].s.key = l2[i].s.key := Decidable.not_not.1 h3
        have hb1 := h1.emax _ (List.getElem_mem hlt)
        unfold m14_9 m14_10
        refine loop_in (fun u w' => ∃ k : Nat, u = .int .i64 k ∧ k ≤ l[i].s.l.length ∧ (∀ j (h : j < l[i].s.l.length) (h' : j < l2[i].s.l.length), j < k → l[i].s.l[j] = l2[i].s.l[j]) ∧ St w0 F w' L) (fun u _ => l[i].s.l.length - (intOf u).toNat) ⟨0, rfl, by omega, fun _ _ _ h => by omega, hS⟩ ?_
        clear hS p q
        rintro u w ⟨k, rfl, hk', hK, hS⟩
        have p := sp_at (h1.row.rd hS) hlt
        have q := sp_at (h2.row.rd hS) hlt2
        unfold m14_11
        refine valP_ok (ix24 hlt _) ?_
        refine valP_ok (fao33_1 _ _ _) ?_
        refine valP_ok (ld31 p.2) ?_
        refine builtin_ok (len31 _) ?_
        refine valP_ok (lss_ok _ _ _ _ _ _ _) ?_
        unfold m14_16
        refine cond_split (fun h5 => ?_) (fun h5 => ?_)
        · have hkl : k < l[i].s.l.length := by omega
          have r1 := (h1.evs _ (List.getElem_mem hlt)).rd hS
          have r2 := (h2.evs _ (List.getElem_mem hlt2)).rd hS
          obtain ⟨a1, e1, hA1⟩ := r1.some_ (by omega) (by omega)
          obtain ⟨a2, e2, hA2⟩ := r2.some_ (by omega) (by omega)
          have r1' := r1
          have r2' := r2
          rw [hA1] at r1'
          rw [hA2] at r2'
          have s := ev_at r1' hkl
          have t := ev_at r2' (i := k) (by omega)
          unfold m14_12
          refine valQ_ok (ix24 hlt) ?_
          refine valQ_ok (fao33_1 _ _) ?_
          refine valQ_load ld31 p.2 ?_
          refine valQ_ok (ix31A hA1 hkl) ?_
          refine valQ_at (fun n => ld28 (cellD s.1 n) (cellD s.2 n)) ?_
          refine valQ_ok (ix24 hlt2) ?_
          refine valQ_ok (fao33_1 _ _) ?_
          refine valQ_load ld31 q.2 ?_
          refine valQ_ok (ix31A hA2 (by omega)) ?_
          refine valQ_at (fun n => ld28 (cellD t.1 n) (cellD t.2 n)) ?_
          refine valQ_ok (ne28 _ _ _ _ _ _) ?_
          refine drawn_ok hS ?_
          intro w hS
          unfold m14_14
          refine cond_split (fun h6 => ?_) (fun h6 => ?_)
          · unfold m14_15
            exact ne w hS fun e => h6 (by simp only [e, and_self])
          · unfold m14_13
            refine valP_ok (add_ok _ _ _ (by omega) (by omega) _) ?_
            refine ⟨⟨k + 1, rfl, by omega, fun j h h' hj => ?_, hS⟩, by simp [intOf]; omega⟩
            by_cases ej : j = k
            · subst ej
              exact ev_ext.2 (Decidable.not_not.1 h6)
            · exact hK j h h' (by omega)
        · unfold m14_8
          refine valP_ok (add_ok _ _ _ (by omega) (by omega) _) ?_
          refine ⟨⟨i + 1, rfl, by omega, fun j h h' hj => ?_, hS⟩, by simp [intOf]; omega⟩
          by_cases ej : j = i
          · subst ej
            exact se_ext hk hen fun j h h' => hK j h h' (by omega)
          · exact hI j h h' (by omega)
  · unfold m14_3 m14_4
    refine ⟨⟨true, rfl, ?_⟩, hS⟩
    simp only [true_iff]
    refine List.ext_getElem (by simpa using hn) fun j h h' => ?_
    simp only [List.getElem_map]
    exact hI j (by simpa using h) (by simpa using h') (by simp at h; omega)
end

end Go.Proofs.Ytojgdmcojmllkaa.M
