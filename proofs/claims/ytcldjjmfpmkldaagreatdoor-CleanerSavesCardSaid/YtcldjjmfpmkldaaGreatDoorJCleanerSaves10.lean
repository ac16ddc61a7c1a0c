/- Parts of a proof, in one text: what it needs of H7, V13, Msaves0, H8, H9. -/
import Derived.Test.YtcldjjmfpmkldaaGreatDoorJCleanerSaves9
import Derived.Test.YtcldjjmfpmkldaaGreatDoorProg
namespace Go.Proofs.YtcldjjmfpmkldaaGreatDoor.M
open Go.Proofs.YtcldjjmfpmkldaaGreatDoor.F Go.RowKit
set_option linter.unusedVariables false
set_option linter.unusedSimpArgs false
set_option maxRecDepth 100000
set_option maxHeartbeats 2000000
attribute [local irreducible] Res.cells Res.row Res.map Res.any World.cell? World.frozen? Instr.fieldAt Instr.loadAt Instr.storeAt Instr.indexAt Instr.lookup Instr.mapUpdate Instr.box Instr.build Instr.buildSlice Instr.extract Instr.alloc Instr.field Instr.index Instr.sliceAt Instr.makeSlice Instr.makeMap Instr.makeFunc binS Op.unary Sem.run
section
variable {w0 w : World} {F : List Nat} {L : List Res} {s t name : ByteArray} {b bq size : Nat} {D Q Q' D' : Dk} {A : Option Addr} {c : Nat}
theorem Qd.with {f : FuncId} {args : Array Value} {P : Value → Prop} (hQ : Qd w0 F L bq size D w) (h : ∀ L', (∀ r ∈ L, r ∈ L') → St w0 F w L' → Ret Tryz.prog f args w fun v w' => P v ∧ St w0 F w' L') : Ret Tryz.prog f args w fun v w' => P v ∧ Qd w0 F L bq size D w' := by
  obtain ⟨A, c, hS⟩ := hQ
  exact (h _ (fun r hr => .tail _ (.tail _ hr)) hS).mono fun v w' ⟨hp, hS'⟩ => ⟨hp, A, c, hS'⟩
theorem qs_8 {e : Int} (hz : name.size ≤ 1000000) (hO : Ok size D) (hQ : Qd w0 F L bq size D w) : m15_8 (QR w0 F L bq size (thenD (D, e) fun D => renD D (newN name) name)) (ptr bq) (.string name) (.int .i64 e) w := by
  have e4 : (⟨#[46, 110, 101, 119]⟩ : ByteArray).size = 4 := rfl
  unfold m15_8
  refine valP_ok (eq3 _ _ _ _ _) ?_
  unfold m15_11 thenD
  refine cond_split (fun h => ?_) (fun h => ?_)
  · rw [if_pos h]
    refine valP_ok (sadd _ _ (by omega) _) ?_
    refine callR (by kernel_rfl) (qrename_ret hO hQ) ?_
    rintro _ w ⟨rfl, hQ⟩
    unfold m15_9 m15_10
    exact ⟨rfl, hQ⟩
  · rw [if_neg h]
    unfold m15_9 m15_10
    exact ⟨rfl, hQ⟩
theorem qs_7 {e : Int} (hz : name.size ≤ 1000000) (hO : Ok size D) (hQ : Qd w0 F L bq size D w) : m15_7 (QR w0 F L bq size (thenD (thenD (D, e) fun D => workD D (newN name) syncR) fun D => renD D (newN name) name)) (ptr bq) (.string name) (.int .i64 e) w := by
  have e4 : (⟨#[46, 110, 101, 119]⟩ : ByteArray).size = 4 := rfl
  unfold m15_7
  refine valP_ok (eq3 _ _ _ _ _) ?_
  unfold m15_12
  refine cond_split (fun h => ?_) (fun h => ?_)
  · rw [show thenD (D, e) (fun D => workD D (newN name) syncR) = workD D (newN name) syncR from by unfold thenD; rw [if_pos h]]
    refine valP_ok (sadd _ _ (by omega) _) ?_
    refine callR (by kernel_rfl) (qsync_ret hO hQ) ?_
    rintro _ w ⟨rfl, hQ⟩
    exact qs_8 hz (Ok.sync hO) hQ
  · rw [show thenD (D, e) (fun D => workD D (newN name) syncR) = (D, e) from by unfold thenD; rw [if_neg h]]
    exact qs_8 hz hO hQ
theorem qs_6 {e : Int} (hs : s.size ≤ 1000000000) (hz : name.size ≤ 1000000) (hO : Ok size D) (hQ : Qd w0 F L bq size D w) : m15_6 (QR w0 F L bq size (thenD (D, e) fun D => saveT D name s)) (ptr bq) (.string name) (.string s) (.int .i64 e) w := by
  have e4 : (⟨#[46, 110, 101, 119]⟩ : ByteArray).size = 4 := rfl
  have ea : thenD (D, e) (fun D => saveT D name s) = thenD (thenD (thenD (D, e) fun D => appD D (newN name) s) fun D => workD D (newN name) syncR) fun D => renD D (newN name) name := by
    unfold saveT
    rw [thenD_assoc, thenD_assoc]
    congr 1
    funext D
    rw [thenD_assoc]
  rw [ea]
  unfold m15_6
  refine valP_ok (eq3 _ _ _ _ _) ?_
  unfold m15_13
  refine cond_split (fun h => ?_) (fun h => ?_)
  · rw [show thenD (D, e) (fun D => appD D (newN name) s) = appD D (newN name) s from by unfold thenD; rw [if_pos h]]
    refine valP_ok (sadd _ _ (by omega) _) ?_
    refine callR (by kernel_rfl) (qappend_ret hO hs hQ) ?_
    rintro _ w ⟨rfl, hQ⟩
    exact qs_7 hz (Ok.app hO) hQ
  · rw [show thenD (D, e) (fun D => appD D (newN name) s) = (D, e) from by unfold thenD; rw [if_neg h]]
    exact qs_7 hz hO hQ
theorem qsave_ret {l : List Gt} (hm : l.length ≤ 100000) (hg : ∀ g ∈ l, GtS g) (hE : BG w0 F L A l) (hO : Ok size D) (hQ : Qd w0 F L bq size D w) : Ret Tryz.prog 15 #[ptr bq, .string name, .slice A l.length c] w (QR w0 F L bq size (saveD D name l)) := by
  have hlen := hO.len
  have e4 : (⟨#[46, 110, 101, 119]⟩ : ByteArray).size = 4 := rfl
  refine s15 _ _ _ ?_
  unfold m15 m15_0 m15_1
  refine callR (by kernel_rfl) (hQ.with fun L' hL' hS => rencode_ret hm hg (hE.mono hL') hS) ?_
  rintro _ w ⟨rfl, hQ⟩
  have leaf : ∀ (q : Bool) (s : ByteArray) (e : Int) w, Qd w0 F L bq size D w → (q = true ↔ ¬ (MayL l ∧ NamedB name)) → (q = false → s = sealS (encL l) ∧ e = 0) → m15_20 (QR w0 F L bq size (saveD D name l)) (ptr bq) (.string name) (.string s) (.int .i64 e) (.bool q) w := fun q s e w hQ hq hs => by
    unfold m15_20
    cases q with
    | true =>
      refine cond_t rfl ?_
      unfold m15_21 saveD
      rw [if_neg (hq.1 rfl)]
      exact ⟨rfl, hQ⟩
    | false =>
      have h : MayL l ∧ NamedB name := Classical.byContradiction fun h => by have := hq.2 h; cases this
      obtain ⟨rfl, rfl⟩ := hs rfl
      have hz : name.size ≤ 1000000 := by have := h.2.2.1; omega
      have hsz : (sealS (encL l)).size ≤ 1000000000 := by
        have := encL_size h.1
        rw [sealS_size]
        omega
      refine cond_f rfl ?_
      unfold saveD
      rw [if_pos h]
      unfold m15_3 m15_4 m15_15
      refine loop_in (fun u w' => ∃ (i : Nat) (old : Bool), u = (.bool old, .int .i64 (i : Int)) ∧ i ≤ D.L.length ∧ (old = true ↔ ∃ j, ∃ hj : j < D.L.length, j < i ∧ D.L[j].name = newN name) ∧ Qd w0 F L bq size D w') (fun u _ => D.L.length - (intOf u.2).toNat) ⟨0, false, rfl, by omega, ⟨fun h => (by cases h), fun ⟨j, _, h, _⟩ => by omega⟩, hQ⟩ ?_
      clear hQ
      rintro u w ⟨i, old, rfl, hi, hold, A1, c1, hS⟩
      simp only
      have hB : Bes w0 F (qCell bq A1 c1 D size :: flRow A1 c1 D.L :: L) 3 A1 D.L.length (D.L.flatMap encFl) := Bes.of_row 1 rfl
      unfold m15_16
      refine nil_ok ?_
      refine valP_ok (fa41_0 _ _) ?_
      refine valP_ok (ld39 (hS.cell 0 rfl rfl)) ?_
      refine builtin_ok (len39 _) ?_
      refine valP_ok (lss_ok _ _ _ _ _ _ _) ?_
      unfold m15_19
      refine cond_split (fun h1 => ?_) (fun h1 => ?_)
      · have hil : i < D.L.length := by omega
        have next : ∀ (K1 : Value × Value → World → Prop), (∀ q : Bool, (q = true ↔ ∃ j, ∃ hj : j < D.L.length, j < i + 1 ∧ D.L[j].name = newN name) → K1 (.bool q, .int .i64 ((i + 1 : Nat) : Int)) w) → ∀ q : Bool, (q = true ↔ (old = true ∨ D.L[i].name = newN name)) → m15_18 (QR w0 F L bq size (thenD (if ∃ f ∈ D.L, f.name = newN name then workD D (newN name) removeR else (D, 0)) fun D => saveT D name (sealS (encL l)))) K1 (ptr bq) (.string name) (.string (sealS (encL l))) (.int .i64 0) (.bool q) (.int .i64 (i : Int)) w := fun K1 hK q hq => by
          unfold m15_18
          refine valP_ok (add_ok _ _ _ (by omega) (by omega) _) ?_
          refine hK q ?_
          rw [hq, hold]
          constructor
          · rintro (⟨j, hj, h2, h3⟩ | h3)
            · exact ⟨j, hj, by omega, h3⟩
            · exact ⟨i, hil, by omega, h3⟩
          · rintro ⟨j, hj, h2, h3⟩
            rcases Nat.lt_or_ge j i with g | g
            · exact .inl ⟨j, hj, g, h3⟩
            · obtain rfl : j = i := by omega
              exact .inr h3
        unfold m15_17
        cases old with
        | true =>
          refine cond_t rfl ?_
          refine pick_t (by first | rfl | assumption) ?_
          exact next _ (fun q hq => ⟨⟨i + 1, q, rfl, by omega, hq, A1, c1, hS⟩, by simp [intOf]; omega⟩) true ⟨fun _ => .inl rfl, fun _ => rfl⟩
        | false =>
          obtain ⟨gb, o, rfl⟩ := (hB.rd hS).some_ (by omega) (by omega)
          have p := fl_at (hB.rd hS) hil
          refine cond_f rfl ?_
          refine nil_ok ?_
          refine valP_ok (fa41_0 _ _) ?_
          refine valP_ok (ld39 (hS.cell 0 rfl rfl)) ?_
          refine valP_ok (ix39 hil _) ?_
          refine valP_ok (fao67_0 _ _ _) ?_
          refine valP_ok (ld9 p.1) ?_
          refine valP_ok (sadd _ _ (by omega) _) ?_
          refine valP_ok (eq9 _ _ _ _ _) ?_
          refine pick_f (by first | rfl | assumption) ?_
          exact next _ (fun q hq => ⟨⟨i + 1, q, rfl, by omega, hq, _, c1, hS⟩, by simp [intOf]; omega⟩) _ (by rw [decide_eq_true_eq]; exact ⟨.inr, fun h => h.resolve_left (by decide)⟩)
      · have hall : old = true ↔ ∃ f ∈ D.L, f.name = newN name := by
          rw [hold]
          constructor
          · rintro ⟨j, hj, _, h3⟩
            exact ⟨_, List.getElem_mem hj, h3⟩
          · rintro ⟨f, hf, h3⟩
            obtain ⟨j, hj, rfl⟩ := List.mem_iff_getElem.1 hf
            exact ⟨j, hj, by omega, h3⟩
        have hQ : Qd w0 F L bq size D w := ⟨A1, c1, hS⟩
        unfold m15_5 m15_14
        cases old with
        | true =>
          rw [if_pos (hall.1 rfl)]
          refine cond_t rfl ?_
          refine valP_ok (sadd _ _ (by omega) _) ?_
          refine callR (by kernel_rfl) (qremove_ret hO hQ) ?_
          rintro _ w ⟨rfl, hQ⟩
          exact qs_6 hsz hz (Ok.remove hO) hQ
        | false =>
          rw [if_neg (fun h => by have := hall.2 h; cases this)]
          refine cond_f rfl ?_
          exact qs_6 hsz hz hO hQ
  unfold encV
  by_cases hM : MayL l
  · rw [if_pos hM]
    refine valP_ok (extract_ok _ 0 rfl _) ?_
    refine valP_ok (extract_ok _ 1 rfl _) ?_
    unfold m15_2
    refine valP_ok (ne3 _ _ _ _ _) ?_
    refine cond_split (fun h => absurd rfl h) (fun h => ?_)
    refine callR (by kernel_rfl) (hQ.with fun L' hL' hS => named40_ret hS) ?_
    rintro _ w ⟨rfl, hQ⟩
    refine valP_ok (not_ok _ _) ?_
    refine pick_df (by first | assumption | omega) ?_
    exact leaf _ _ _ _ hQ (by rw [decide_eq_true_eq]; exact ⟨fun h h1 => h h1.2, fun h h1 => h ⟨hM, h1⟩⟩) (fun _ => ⟨rfl, rfl⟩)
  · rw [if_neg hM]
    refine valP_ok (extract_ok _ 0 rfl _) ?_
    refine valP_ok (extract_ok _ 1 rfl _) ?_
    unfold m15_2
    refine valP_ok (ne3 _ _ _ _ _) ?_
    refine cond_split (fun h => ?_) (fun h => absurd (Classical.not_not.1 h) (by decide))
    refine pick_dt (by first | assumption | omega) ?_
    exact leaf true _ _ _ hQ ⟨fun _ h => hM h.1, fun _ => rfl⟩ (fun h => (by cases h))
def QLdR (w0 : World) (F : List Nat) (L : List Res) (bq size : Nat) (D : Dk) (p : List Gt × Int) (v : Value) (w : World) : Prop := ∃ A c, v = .tuple #[.slice A p.1.length c, .int .i64 p.2] ∧ Qd w0 F (grow A c p.1 :: L) bq size D w
theorem QLdR.none_ {e : Int} (hQ : Qd w0 F L bq size D w) : QLdR w0 F L bq size D ([], e) (.tuple #[.slice none 0 0, .int .i64 e]) w := by
  obtain ⟨A, c, hS⟩ := hQ
  exact ⟨none, 0, rfl, A, c, (hS.row_nil 58 4).pick 3 [1, 2, 0] (by simp) (by decide)⟩
theorem qload_ret (hO : Ok size D) (hQ : Qd w0 F L bq size D w) : Ret Tryz.prog 19 #[ptr bq, .string name] w (QLdR w0 F L bq size D (loadL D name)) := by
  refine s19 _ _ ?_
  unfold m19 m19_0 m19_1
  refine callR (by kernel_rfl) (hQ.with fun L' hL' hS => named40_ret hS) ?_
  rintro _ w ⟨rfl, hQ⟩
  refine valP_ok (not_ok _ _) ?_
  unfold m19_8 loadL
  refine cond_split (fun h => ?_) (fun h => ?_)
  · unfold m19_9
    rw [if_neg h]
    exact QLdR.none_ hQ
  · rw [if_pos (Classical.not_not.1 h)]
    unfold m19_2
    refine callR (by kernel_rfl) (qread_ret hO hQ) ?_
    rintro _ w ⟨rfl, hQ⟩
    have hsz : (readV D name).1.size ≤ 1048576 := by
      unfold readV
      split
      · cases hg : getF D.L name with
        | none => exact Nat.zero_le _
        | some f =>
          have := hO.sz (getF_some hg).1
          show (f.sure ++ f.loose).size ≤ _
          rw [ByteArray.size_append]
          exact this
      · exact Nat.zero_le _
    generalize readV D name = p at *
    refine valP_ok (extract_ok _ 0 rfl _) ?_
    refine valP_ok (extract_ok _ 1 rfl _) ?_
    unfold m19_3
    refine valP_ok (ne3 _ _ _ _ _) ?_
    unfold m19_6
    refine cond_split (fun h => ?_) (fun h => ?_)
    · unfold m19_7
      rw [if_neg h]
      exact QLdR.none_ hQ
    · rw [if_pos (Classical.not_not.1 h)]
      obtain ⟨A, c, hS⟩ := hQ
      unfold m19_4
      refine callR (by kernel_rfl) (rdecode_ret (by unfold maxLen; omega) hS) ?_
      rintro _ w ⟨A1, c1, rfl, hS⟩
      refine valP_ok (extract_ok _ 0 rfl _) ?_
      refine valP_ok (extract_ok _ 1 rfl _) ?_
      unfold m19_5
      exact ⟨A1, c1, rfl, A, c, hS.pick 3 [1, 2, 0] (by simp) (by decide)⟩
def Both (w0 : World) (F : List Nat) (L : List Res) (b bq size : Nat) (D Q : Dk) (w : World) : Prop := ∃ A c, Dsk w0 F (qCell bq A c Q size :: flRow A c Q.L :: L) b D w
theorem Dsk.perm {L' : List Res} (hp : L.Perm L') (hD : Dsk w0 F L b D w) : Dsk w0 F L' b D w := by
  obtain ⟨mb, X, hX, hS⟩ := hD
  exact ⟨mb, X, hX, hS.perm (List.Perm.cons _ (List.Perm.cons _ (hp.append_left _)))⟩
theorem Both.pop {r : Res} (hB : Both w0 F (r :: L) b bq size D Q w) : Both w0 F L b bq size D Q w := by
  obtain ⟨A, c, hD⟩ := hB
  exact ⟨A, c, (hD.perm (L' := r :: qCell bq A c Q size :: flRow A c Q.L :: L) (((List.Perm.swap _ _ _).cons _).trans (List.Perm.swap _ _ _))).pop⟩
theorem Both.real {f : FuncId} {args : Array Value} {P : Value → Prop} (hB : Both w0 F L b bq size D Q w) (h : ∀ L', (∀ r ∈ L, r ∈ L') → Dsk w0 F L' b D w → Ret Tryz.prog f args w fun v w' => P v ∧ Dsk w0 F L' b D' w') : Ret Tryz.prog f args w fun v w' => P v ∧ Both w0 F L b bq size D' Q w' := by
  obtain ⟨A, c, hD⟩ := hB
  exact (h _ (fun r hr => .tail _ (.tail _ hr)) hD).mono fun v w' ⟨hp, hD'⟩ => ⟨hp, A, c, hD'⟩
theorem Both.toQ (hB : Both w0 F L b bq size D Q w) : ∃ mb X, X.map Prod.fst = D.L ∧ Qd w0 F (dCell b (.map (some mb)) D.room D.fuse D.off :: mapD mb X :: (X.map fileR ++ L)) bq size Q w := by
  obtain ⟨A, c, mb, X, hX, hS⟩ := hB
  exact ⟨mb, X, hX, A, c, St.swap (A := dCell b (.map (some mb)) D.room D.fuse D.off :: mapD mb X :: X.map fileR) (B := [qCell bq A c Q size, flRow A c Q.L]) (L := L) hS⟩
theorem Both.ofQ {mb : Nat} {X : List (Fl × Nat)} (hX : X.map Prod.fst = D.L) (hQ : Qd w0 F (dCell b (.map (some mb)) D.room D.fuse D.off :: mapD mb X :: (X.map fileR ++ L)) bq size Q w) : Both w0 F L b bq size D Q w := by
  obtain ⟨A, c, hS⟩ := hQ
  exact ⟨A, c, mb, X, hX, St.swap (A := [qCell bq A c Q size, flRow A c Q.L]) (B := dCell b (.map (some mb)) D.room D.fuse D.off :: mapD mb X :: X.map fileR) (L := L) hS⟩
theorem Both.doc {f : FuncId} {args : Array Value} {P : Value → Prop} (hB : Both w0 F L b bq size D Q w) (h : ∀ L', (∀ r ∈ L, r ∈ L') → Qd w0 F L' bq size Q w → Ret Tryz.prog f args w fun v w' => P v ∧ Qd w0 F L' bq size Q' w') : Ret Tryz.prog f args w fun v w' => P v ∧ Both w0 F L b bq size D Q' w' := by
  obtain ⟨mb, X, hX, hQ⟩ := hB.toQ
  exact (h _ inTl hQ).mono fun v w' ⟨hp, hQ'⟩ => ⟨hp, Both.ofQ hX hQ'⟩
theorem Both.st (hB : Both w0 F L b bq size D Q w) : ∃ L', (∀ r ∈ L, r ∈ L') ∧ St w0 F w L' := by
  obtain ⟨A, c, hD⟩ := hB
  obtain ⟨L', h1, h2⟩ := hD.st
  exact ⟨L', fun r hr => h1 r (.tail _ (.tail _ hr)), h2⟩
theorem Both.with {f : FuncId} {args : Array Value} {P : Value → Prop} (hB : Both w0 F L b bq size D Q w) (h : ∀ L', (∀ r ∈ L, r ∈ L') → St w0 F w L' → Ret Tryz.prog f args w fun v w' => P v ∧ St w0 F w' L') : Ret Tryz.prog f args w fun v w' => P v ∧ Both w0 F L b bq size D Q w' :=
  hB.real fun L' hL' hD => hD.with fun L'' hL'' hS => h L'' (fun r hr => hL'' r (hL' r hr)) hS
theorem alike_ret (hO : Ok size D) (hB : Both w0 F L b bq size D D w) : Ret Tryz.prog 20 #[ptr b, ptr bq] w fun v w' => v = .bool true ∧ Both w0 F L b bq size D D w' := by
  have hlen := hO.len
  obtain ⟨A, c, mb, X, hX, hS⟩ := hB
  refine s20 _ _ ?_
  unfold m20 m20_0
  unfold m20_1
  refine drawn_ok hS ?_
  intro w hS
  have hD : Dsk w0 F (qCell bq A c D size :: flRow A c D.L :: L) b D w := ⟨mb, X, hX, hS⟩
  clear hS hX
  have stay : ∀ w, Dsk w0 F (qCell bq A c D size :: flRow A c D.L :: L) b D w → Hs w0 F (qCell bq A c D size :: flRow A c D.L :: L) w := fun w hD => by
    obtain ⟨L', hL', hS⟩ := hD.st
    exact Hs.of hS hL'
  refine ⟨Hs w0 F (qCell bq A c D size :: flRow A c D.L :: L), stay _ hD, ?_⟩
  refine nil_ok ?_
  refine valJ_ok (fa41_0 _) ?_
  refine valJ_load ld39 (Hs.cell 0 rfl rfl) ?_
  refine callR (by kernel_rfl) (files_ret hO hD) ?_
  rintro _ w ⟨A1, c1, rfl, hD⟩
  refine ⟨stay _ hD.pop, ?_⟩
  refine callR (by kernel_rfl) (hD.with fun L' hL' hS => samefl_ret (by omega) (by omega) ((Bes.of_row (e := 67) (c := c1) 0 rfl : Bes w0 F (flRow A1 c1 D.L :: qCell bq A c D size :: flRow A c D.L :: L) 3 A1 D.L.length (D.L.flatMap encFl)).mono hL') ((Bes.of_row (e := 67) (c := c) 2 rfl : Bes w0 F (flRow A1 c1 D.L :: qCell bq A c D size :: flRow A c D.L :: L) 3 A D.L.length (D.L.flatMap encFl)).mono hL') hS) ?_
  rintro _ w ⟨⟨q, rfl, hq⟩, hD⟩
  obtain rfl := hq.2 rfl
  have hD := hD.pop
  refine ⟨stay _ hD, ?_⟩
  refine cond_t rfl ?_
  obtain ⟨mb, X, hX, hS⟩ := hD
  refine callR (by kernel_rfl) (free_ret hS) ?_
  rintro _ w ⟨rfl, hS⟩
  have hD : Dsk w0 F (qCell bq A c D size :: flRow A c D.L :: L) b D w := ⟨mb, X, hX, hS⟩
  clear hS hX
  refine ⟨stay _ hD, ?_⟩
  obtain ⟨mb, X, hX, hS⟩ := hD
  have hS := St.swap (A := dCell b (.map (some mb)) D.room D.fuse D.off :: mapD mb X :: X.map fileR) (B := [qCell bq A c D size, flRow A c D.L]) (L := L) hS
  refine callR (by kernel_rfl) (free49_ret 0 hO rfl rfl hS) ?_
  rintro _ w ⟨rfl, hS⟩
  have hS := St.swap (A := [qCell bq A c D size, flRow A c D.L]) (B := dCell b (.map (some mb)) D.room D.fuse D.off :: mapD mb X :: X.map fileR) (L := L) hS
  have hD : Dsk w0 F (qCell bq A c D size :: flRow A c D.L :: L) b D w := ⟨mb, X, hX, hS⟩
  clear hS hX
  refine ⟨stay _ hD, ?_⟩
  refine valJ_ok (eq3 _ _ _ _) ?_
  refine pick_t (by first | rfl | assumption) ?_
  refine cond_dt rfl ?_
  refine nil_ok ?_
  refine valJ_ok (fa41_3 _) ?_
  refine valJ_load ld4 (Hs.cell 0 rfl rfl) ?_
  obtain ⟨mb, X, hX, hS⟩ := hD
  refine callR (by kernel_rfl) (off_ret hS) ?_
  rintro _ w ⟨rfl, hS⟩
  have hD : Dsk w0 F (qCell bq A c D size :: flRow A c D.L :: L) b D w := ⟨mb, X, hX, hS⟩
  refine ⟨stay _ hD, ?_⟩
  refine valJ_ok (eq4 _ _ _ _) ?_
  refine pick_dt (by first | assumption | omega) ?_
  unfold m20_2
  exact ⟨by simp, A, c, hD⟩
end
theorem cut_ok {l : List Gt} (h : ∀ g ∈ l, GtOk g) : ∀ g ∈ (l.take 150).map cutG, GtOk g := fun g hg => by
  obtain ⟨x, hx, rfl⟩ := List.mem_map.1 hg
  exact h x (List.mem_of_mem_take hx)
theorem cut_len (l : List Gt) : ((l.take 150).map cutG).length ≤ 150 := by
  rw [List.length_map, List.length_take]
  omega
section
variable {w0 : World} {l : List Gt} {A : Option Addr} {c : Nat}
end
theorem icells3 : Tryz.prog.cellsOf 3 = 1 := by kernel_rfl
theorem iI {x : Int} (h : (Lit.int .i64 x).wf = true) : -9223372036854775808 ≤ x ∧ x ≤ 9223372036854775807 := by
  simp only [Lit.wf, Bool.and_eq_true, decide_eq_true_eq] at h
  exact h
section
variable {H : Type} {en : TypeId × Value → H} {w : World}
theorem openRc {n : Nat} {cs : List Value} {y : DataW H × List MemPlace} (h : DataW.trod en Tryz.prog w 0 (fun _ => true) true n 56 cs = some y) : ∃ r : Rc, cs = encR r ∧ (-9223372036854775808 ≤ r.key ∧ r.key ≤ 9223372036854775807) ∧ -9223372036854775808 ≤ r.time ∧ r.time ≤ 9223372036854775807 := by
  obtain ⟨hl, hf⟩ := open_structE Tryz.underlying56 h
  rw [show Tryz.prog.cellsOf 56 = 3 from by kernel_rfl] at hl
  obtain ⟨c0, c1, c2, rfl⟩ : ∃ c0 c1 c2, cs = [c0, c1, c2] := by
    match cs, hl with
    | [c0, c1, c2], _ => exact ⟨c0, c1, c2, rfl⟩
  obtain ⟨_, _, h0⟩ := hf 0 3 0 1 rfl icells3
  obtain ⟨_, _, h1⟩ := hf 1 3 1 1 rfl icells3
  obtain ⟨_, _, h2⟩ := hf 2 9 2 1 rfl (by kernel_rfl)
  obtain ⟨a0, e0, _, w0⟩ := DataW.trod_int Tryz.underlying3 h0
  obtain ⟨a1, e1, _, w1⟩ := DataW.trod_int Tryz.underlying3 h1
  obtain ⟨a2, e2, _, w2⟩ := DataW.trod_string Tryz.underlying9 h2
  simp at e0 e1 e2
  subst e0; subst e1; subst e2
  exact ⟨⟨a0, a1, a2⟩, rfl, iI w0, iI w1⟩
theorem openGt {n : Nat} {cs : List Value} {y : DataW H × List MemPlace} (h : DataW.trod en Tryz.prog w 0 (fun _ => true) true n 58 cs = some y) : ∃ g : Gt, cs = encG g ∧ (encG g).length = 4 ∧ GtOk g := by
  obtain ⟨hl, hf⟩ := open_structE Tryz.underlying58 h
  rw [show Tryz.prog.cellsOf 58 = 4 from by kernel_rfl] at hl
  obtain ⟨c0, c1, c2, c3, rfl⟩ : ∃ c0 c1 c2 c3, cs = [c0, c1, c2, c3] := by
    match cs, hl with
    | [c0, c1, c2, c3], _ => exact ⟨c0, c1, c2, c3, rfl⟩
  obtain ⟨_, _, h0⟩ := hf 0 3 0 1 rfl icells3
  obtain ⟨_, _, h1⟩ := hf 1 56 1 3 rfl (by kernel_rfl)
  obtain ⟨a0, e0, _, w0⟩ := DataW.trod_int Tryz.underlying3 h0
  obtain ⟨r, e1, hr⟩ := openRc h1
  simp at e0 e1
  obtain ⟨rfl, rfl, rfl⟩ := e1
  subst e0
  exact ⟨⟨a0, r⟩, rfl, rfl, hr⟩
theorem openGts {n : Nat} {cs : List Value} {y : DataW H × List MemPlace} (h : DataW.trod en Tryz.prog w 0 (fun _ => true) true n 22 cs = some y) :
    ∃ (A : Option Addr) (c : Nat) (l : List Gt), cs = [.slice A l.length c] ∧ l.length ≤ c ∧ (A = none → c = 0) ∧ Rd w 4 A l.length (l.flatMap encG) ∧ ∀ x ∈ l, GtOk x :=
  open_rowsE encG GtOk (by omega) Tryz.underlying22 (by kernel_rfl) (fun n cs y h => openGt h) h
end
end Go.Proofs.YtcldjjmfpmkldaaGreatDoor.M
namespace Go.Proofs.YtcldjjmfpmkldaaGreatDoor.M
open Go.Proofs.YtcldjjmfpmkldaaGreatDoor.F
set_option linter.unusedVariables false
set_option maxRecDepth 100000
variable {R : VP} {Q : EQ}
def m4_39 (R : VP) (t4 : Value) (w : World) : Prop :=
  R t4 w
def m4_37 (R : VP) (t4 : Value) (w : World) : Prop :=
  R t4 w
def m4_24 (R : VP) (K1 : VP) (t4 : Value) (w : World) : Prop :=
  R t4 w
def m4_20 (R : VP) (K1 : VP) (t4 : Value) (w : World) : Prop :=
  R t4 w
def m4_11 (R : VP) (K1 : VP) (l1 d5 q7 i9 : Value) (w : World) : Prop :=
  valP Tryz.prog (binS BinOp.add 3 (tm 39) (ci 1) i9 (vi 1)) w fun t40 w =>
  K1 t40 w
def m4_19 (R : VP) (K1 : VP) (l1 d5 q7 i9 t141 : Value) (w : World) : Prop :=
  condP t141
  (m4_20 R K1 (Value.bool false) w)
  (m4_11 R K1 l1 d5 q7 i9 w)
def m4_18 (R : VP) (K1 : VP) (l1 d5 q7 i9 a11 g12 b13 h14 : Value) (w : World) : Prop :=
  callP Tryz.prog (fnV 13) #[a11, b13] w fun t130 w =>
  valP Tryz.prog (Op.unary UnOp.not t130) w fun t131 w =>
  condP t131
  (pickP t131 (Value.bool true) undef fun t136 =>
  condP t136
  (pickP t136 (Value.bool true) undef fun t141 =>
  m4_19 R K1 l1 d5 q7 i9 t141 w)
  (callP Tryz.prog (fnV 20) #[d5, q7] w fun t139 w =>
  valP Tryz.prog (Op.unary UnOp.not t139) w fun t140 w =>
  pickP t136 (Value.bool true) t140 fun t141 =>
  m4_19 R K1 l1 d5 q7 i9 t141 w))
  (valP Tryz.prog (binS BinOp.neq 3 (tm 133) (tm 134) g12 h14) w fun t135 w =>
  pickP t131 (Value.bool true) t135 fun t136 =>
  condP t136
  (pickP t136 (Value.bool true) undef fun t141 =>
  m4_19 R K1 l1 d5 q7 i9 t141 w)
  (callP Tryz.prog (fnV 20) #[d5, q7] w fun t139 w =>
  valP Tryz.prog (Op.unary UnOp.not t139) w fun t140 w =>
  pickP t136 (Value.bool true) t140 fun t141 =>
  m4_19 R K1 l1 d5 q7 i9 t141 w))
def m4_17 (R : VP) (K1 : VP) (l1 d5 q7 i9 x10 a11 g12 : Value) (w : World) : Prop :=
  valP Tryz.prog (Instr.fieldAt 45 x10 2) w fun t123 w =>
  valP Tryz.prog (Instr.loadAt 9 t123) w fun t124 w =>
  callP Tryz.prog (fnV 19) #[q7, t124] w fun t125 w =>
  valP Tryz.prog (Instr.extract t125 0) w fun t126 w =>
  valP Tryz.prog (Instr.extract t125 1) w fun t127 w =>
  m4_18 R K1 l1 d5 q7 i9 a11 g12 t126 t127 w
def m4_16 (R : VP) (K1 : VP) (l1 d5 q7 i9 x10 : Value) (w : World) : Prop :=
  valP Tryz.prog (Instr.fieldAt 45 x10 2) w fun t117 w =>
  valP Tryz.prog (Instr.loadAt 9 t117) w fun t118 w =>
  callP Tryz.prog (fnV 10) #[d5, t118] w fun t119 w =>
  valP Tryz.prog (Instr.extract t119 0) w fun t120 w =>
  valP Tryz.prog (Instr.extract t119 1) w fun t121 w =>
  m4_17 R K1 l1 d5 q7 i9 x10 t120 t121 w
def m4_23 (R : VP) (K1 : VP) (l1 d5 q7 i9 x10 t82 : Value) (w : World) : Prop :=
  condP t82
  (m4_24 R K1 (Value.bool false) w)
  (m4_16 R K1 l1 d5 q7 i9 x10 w)
def m4_26 (R : VP) (K1 : VP) (l1 d5 q7 i9 x10 : Value) (w : World) : Prop :=
  valP Tryz.prog (Instr.fieldAt 45 x10 5) w fun t89 w =>
  valP Tryz.prog (Instr.loadAt 23 t89) w fun t90 w =>
  callP Tryz.prog (fnV 16) #[q7, t90] w fun t91 w =>
  m4_16 R K1 l1 d5 q7 i9 x10 w
def m4_28 (R : VP) (K1 : VP) (l1 d5 q7 i9 x10 : Value) (w : World) : Prop :=
  valP Tryz.prog (Instr.fieldAt 45 x10 1) w fun t98 w =>
  valP Tryz.prog (Instr.loadAt 3 t98) w fun t99 w =>
  builtinP Tryz.prog Builtin.max #[3, 3] 3 #[false, true] #[t99, (vi (-1))] w fun t100 w =>
  valP Tryz.prog (Instr.fieldAt 41 q7 2) w fun t101 w =>
  unitP Tryz.prog (Instr.storeAt 3 t101 t100) w fun _ w =>
  m4_16 R K1 l1 d5 q7 i9 x10 w
def m4_30 (R : VP) (K1 : VP) (l1 d5 q7 i9 x10 : Value) (w : World) : Prop :=
  valP Tryz.prog (Instr.fieldAt 45 x10 2) w fun t110 w =>
  valP Tryz.prog (Instr.loadAt 9 t110) w fun t111 w =>
  valP Tryz.prog (Instr.fieldAt 45 x10 3) w fun t112 w =>
  valP Tryz.prog (Instr.loadAt 9 t112) w fun t113 w =>
  callP Tryz.prog (fnV 18) #[q7, t111, t113] w fun t114 w =>
  m4_16 R K1 l1 d5 q7 i9 x10 w
def m4_29 (R : VP) (K1 : VP) (l1 d5 q7 i9 x10 t102 : Value) (w : World) : Prop :=
  condP t102
  (valP Tryz.prog (Instr.fieldAt 45 x10 2) w fun t105 w =>
  valP Tryz.prog (Instr.loadAt 9 t105) w fun t106 w =>
  valP Tryz.prog (Instr.fieldAt 45 x10 3) w fun t107 w =>
  valP Tryz.prog (Instr.loadAt 9 t107) w fun t108 w =>
  callP Tryz.prog (fnV 17) #[d5, t106, t108] w fun t109 w =>
  m4_30 R K1 l1 d5 q7 i9 x10 w)
  (m4_16 R K1 l1 d5 q7 i9 x10 w)
def m4_27 (R : VP) (K1 : VP) (l1 d5 q7 i9 x10 t66 t92 : Value) (w : World) : Prop :=
  condP t92
  (valP Tryz.prog (Instr.fieldAt 45 x10 1) w fun t95 w =>
  valP Tryz.prog (Instr.loadAt 3 t95) w fun t96 w =>
  callP Tryz.prog (fnV 8) #[d5, t96] w fun t97 w =>
  m4_28 R K1 l1 d5 q7 i9 x10 w)
  (valP Tryz.prog (binS BinOp.eql 3 (tm 66) (ci 5) t66 (vi 5)) w fun t103 w =>
  m4_29 R K1 l1 d5 q7 i9 x10 t103 w)
def m4_25 (R : VP) (K1 : VP) (l1 d5 q7 i9 x10 t66 t83 : Value) (w : World) : Prop :=
  condP t83
  (valP Tryz.prog (Instr.fieldAt 45 x10 5) w fun t86 w =>
  valP Tryz.prog (Instr.loadAt 23 t86) w fun t87 w =>
  callP Tryz.prog (fnV 9) #[d5, t87] w fun t88 w =>
  m4_26 R K1 l1 d5 q7 i9 x10 w)
  (valP Tryz.prog (binS BinOp.eql 3 (tm 66) (ci 4) t66 (vi 4)) w fun t93 w =>
  m4_27 R K1 l1 d5 q7 i9 x10 t66 t93 w)
def m4_22 (R : VP) (K1 : VP) (l1 d5 q7 i9 x10 t66 t67 : Value) (w : World) : Prop :=
  condP t67
  (anyDraw w fun w =>
  heldP w fun J =>
  valJ Tryz.prog J (Instr.fieldAt 45 x10 2) fun t72 =>
  valJ Tryz.prog J (Instr.loadAt 9 t72) fun t73 =>
  valJ Tryz.prog J (Instr.fieldAt 45 x10 4) fun t74 =>
  valJ Tryz.prog J (Instr.loadAt 22 t74) fun t75 =>
  valJ Tryz.prog J (Instr.fieldAt 45 x10 2) fun t77 =>
  valJ Tryz.prog J (Instr.loadAt 9 t77) fun t78 =>
  valJ Tryz.prog J (Instr.fieldAt 45 x10 4) fun t79 =>
  valJ Tryz.prog J (Instr.loadAt 22 t79) fun t80 =>
  callP Tryz.prog (fnV 7) #[d5, t73, t75] w fun t76 w =>
  stayP J w
  (callP Tryz.prog (fnV 15) #[q7, t78, t80] w fun t81 w =>
  stayP J w
  (valJ Tryz.prog J (binS BinOp.neq 3 (tm 76) (tm 81) t76 t81) fun t82 =>
  m4_23 R K1 l1 d5 q7 i9 x10 t82 w)))
  (valP Tryz.prog (binS BinOp.eql 3 (tm 66) (ci 3) t66 (vi 3)) w fun t84 w =>
  m4_25 R K1 l1 d5 q7 i9 x10 t66 t84 w)
def m4_32 (R : VP) (K1 : VP) (l1 d5 q7 i9 x10 t66 t67 : Value) (w : World) : Prop :=
  condP t67
  (m4_22 R K1 l1 d5 q7 i9 x10 t66 t67 w)
  (valP Tryz.prog (binS BinOp.eql 3 (tm 66) (ci 2) t66 (vi 2)) w fun t70 w =>
  m4_22 R K1 l1 d5 q7 i9 x10 t66 t70 w)
def m4_31 (R : VP) (K1 : VP) (l1 d5 q7 i9 x10 t66 t67 : Value) (w : World) : Prop :=
  condP t67
  (m4_22 R K1 l1 d5 q7 i9 x10 t66 t67 w)
  (valP Tryz.prog (binS BinOp.eql 3 (tm 66) (ci 1) t66 (vi 1)) w fun t69 w =>
  m4_32 R K1 l1 d5 q7 i9 x10 t66 t69 w)
def m4_21 (R : VP) (K1 : VP) (l1 d5 q7 i9 x10 t66 : Value) (w : World) : Prop :=
  valP Tryz.prog (binS BinOp.eql 3 (tm 66) (ci 0) t66 (vi 0)) w fun t68 w =>
  m4_31 R K1 l1 d5 q7 i9 x10 t66 t68 w
def m4_15 (R : VP) (K1 : VP) (l1 d5 q7 i9 x10 : Value) (w : World) : Prop :=
  valP Tryz.prog (Instr.fieldAt 45 x10 0) w fun t65 w =>
  valP Tryz.prog (Instr.loadAt 3 t65) w fun t66 w =>
  m4_21 R K1 l1 d5 q7 i9 x10 t66 w
def m4_33 (R : VP) (K1 : VP) (l1 d5 q7 i9 x10 t60 : Value) (w : World) : Prop :=
  condP t60
  (valP Tryz.prog (Instr.fieldAt 45 x10 5) w fun t61 w =>
  valP Tryz.prog (Instr.loadAt 23 t61) w fun t62 w =>
  valP Tryz.prog (Instr.sliceAt 23 t62 none (some (vi 50)) none) w fun t63 w =>
  valP Tryz.prog (Instr.fieldAt 45 x10 5) w fun t64 w =>
  unitP Tryz.prog (Instr.storeAt 23 t64 t63) w fun _ w =>
  m4_15 R K1 l1 d5 q7 i9 x10 w)
  (m4_15 R K1 l1 d5 q7 i9 x10 w)
def m4_14 (R : VP) (K1 : VP) (l1 d5 q7 i9 x10 : Value) (w : World) : Prop :=
  valP Tryz.prog (Instr.fieldAt 45 x10 5) w fun t57 w =>
  valP Tryz.prog (Instr.loadAt 23 t57) w fun t58 w =>
  builtinP Tryz.prog Builtin.len #[23] 3 #[false] #[t58] w fun t59 w =>
  valP Tryz.prog (binS BinOp.gtr 3 (tm 59) (ci 50) t59 (vi 50)) w fun t60 w =>
  m4_33 R K1 l1 d5 q7 i9 x10 t60 w
def m4_34 (R : VP) (K1 : VP) (l1 d5 q7 i9 x10 t52 : Value) (w : World) : Prop :=
  condP t52
  (valP Tryz.prog (Instr.fieldAt 45 x10 3) w fun t53 w =>
  valP Tryz.prog (Instr.loadAt 9 t53) w fun t54 w =>
  valP Tryz.prog (Instr.sliceAt 9 t54 none (some (vi 1000)) none) w fun t55 w =>
  valP Tryz.prog (Instr.fieldAt 45 x10 3) w fun t56 w =>
  unitP Tryz.prog (Instr.storeAt 9 t56 t55) w fun _ w =>
  m4_14 R K1 l1 d5 q7 i9 x10 w)
  (m4_14 R K1 l1 d5 q7 i9 x10 w)
def m4_13 (R : VP) (K1 : VP) (l1 d5 q7 i9 x10 : Value) (w : World) : Prop :=
  valP Tryz.prog (Instr.fieldAt 45 x10 3) w fun t49 w =>
  valP Tryz.prog (Instr.loadAt 9 t49) w fun t50 w =>
  builtinP Tryz.prog Builtin.len #[9] 3 #[false] #[t50] w fun t51 w =>
  valP Tryz.prog (binS BinOp.gtr 3 (tm 51) (ci 1000) t51 (vi 1000)) w fun t52 w =>
  m4_34 R K1 l1 d5 q7 i9 x10 t52 w
def m4_12 (R : VP) (K1 : VP) (l1 d5 q7 i9 x10 : Value) (w : World) : Prop :=
  valP Tryz.prog (Instr.fieldAt 45 x10 4) w fun t45 w =>
  valP Tryz.prog (Instr.loadAt 22 t45) w fun t46 w =>
  callP Tryz.prog (fnV 5) #[t46] w fun t47 w =>
  valP Tryz.prog (Instr.fieldAt 45 x10 4) w fun t48 w =>
  unitP Tryz.prog (Instr.storeAt 22 t48 t47) w fun _ w =>
  m4_13 R K1 l1 d5 q7 i9 x10 w
def m4_10 (R : VP) (K1 : VP) (l1 d5 q7 i9 : Value) (w : World) : Prop :=
  valP Tryz.prog (Instr.indexAt 38 l1 i9) w fun t43 w =>
  valP Tryz.prog (Instr.loadAt 45 t43) w fun t44 w =>
  valP Tryz.prog (Instr.alloc 45 true (.tuple #[])) w fun x10 w =>
  unitP Tryz.prog (Instr.storeAt 45 x10 t44) w fun _ w =>
  m4_12 R K1 l1 d5 q7 i9 x10 w
def m4_7 (R : VP) (t4 : Value) (w : World) : Prop :=
  R t4 w
def m4_6 (R : VP) (w : World) : Prop :=
  callP Tryz.prog (fnV 12) #[] w fun t142 w =>
  m4_7 R t142 w
def m4_35 (R : VP) (K1 : VP) (l1 d5 q7 i9 t38 : Value) (w : World) : Prop :=
  condP t38
  (m4_10 R K1 l1 d5 q7 i9 w)
  (m4_6 R w)
def m4_9 (R : VP) (K1 : VP) (l1 d5 q7 i9 : Value) (w : World) : Prop :=
  builtinP Tryz.prog Builtin.len #[38] 3 #[false] #[l1] w fun t33 w =>
  valP Tryz.prog (binS BinOp.lss 3 (tm 31) (tm 33) i9 t33) w fun t34 w =>
  condP t34
  (valP Tryz.prog (binS BinOp.lss 3 (tm 36) (ci 30) i9 (vi 30)) w fun t37 w =>
  pickP t34 t37 (Value.bool false) fun t38 =>
  m4_35 R K1 l1 d5 q7 i9 t38 w)
  (pickP t34 undef (Value.bool false) fun t38 =>
  m4_35 R K1 l1 d5 q7 i9 t38 w)
def m4_8 (R : VP) (l1 d5 q7 i9 : Value) (w : World) : Prop :=
  loopP (fun (K1 : VP) (s : Value) w => m4_9 R K1 l1 d5 q7 s w) i9 w
def m4_5 (R : VP) (l1 d5 q7 : Value) (w : World) : Prop :=
  m4_8 R l1 d5 q7 (vi 0) w
def m4_36 (R : VP) (l1 d5 q7 t29 : Value) (w : World) : Prop :=
  condP t29
  (callP Tryz.prog (fnV 12) #[] w fun t30 w =>
  m4_37 R t30 w)
  (m4_5 R l1 d5 q7 w)
def m4_4 (R : VP) (l1 d5 q7 : Value) (w : World) : Prop :=
  valP Tryz.prog (binS BinOp.eql 25 (tm 28) (Operand.const (Value.pointer none)) d5 (Value.pointer none)) w fun t29 w =>
  m4_36 R l1 d5 q7 t29 w
def m4_38 (R : VP) (l1 d5 q7 t27 : Value) (w : World) : Prop :=
  condP t27
  (m4_39 R (Value.bool false) w)
  (m4_4 R l1 d5 q7 w)
def m4_3 (R : VP) (l1 d5 e6 q7 f8 : Value) (w : World) : Prop :=
  valP Tryz.prog (binS BinOp.neq 3 (tm 25) (tm 26) e6 f8) w fun t27 w =>
  m4_38 R l1 d5 q7 t27 w
def m4_2 (R : VP) (size0 l1 d5 e6 : Value) (w : World) : Prop :=
  callP Tryz.prog (fnV 14) #[size0] w fun t22 w =>
  valP Tryz.prog (Instr.extract t22 0) w fun t23 w =>
  valP Tryz.prog (Instr.extract t22 1) w fun t24 w =>
  valP Tryz.prog (Instr.alloc 41 true (.tuple #[])) w fun q7 w =>
  unitP Tryz.prog (Instr.storeAt 41 q7 t23) w fun _ w =>
  m4_3 R l1 d5 e6 q7 t24 w
def m4_1 (R : VP) (size0 l1 : Value) (w : World) : Prop :=
  callP Tryz.prog (fnV 6) #[size0] w fun t17 w =>
  valP Tryz.prog (Instr.extract t17 0) w fun t18 w =>
  valP Tryz.prog (Instr.extract t17 1) w fun t19 w =>
  m4_2 R size0 l1 t18 t19 w
def m4_0 (R : VP) (size0 l1 : Value) (w : World) : Prop :=
  m4_1 R size0 l1 w
abbrev W4 := cwp Tryz.prog (fun i => 0)
noncomputable def k4_0 := bodyOf Tryz.f4
noncomputable def k4_1 := c2 k4_0
noncomputable def k4_2 := c2 k4_1
noncomputable def k4_3 := c2 k4_2
noncomputable def k4_4 := c2 k4_3
noncomputable def k4_5 := c2 k4_4
noncomputable def k4_6 := c2 k4_5
noncomputable def k4_7 := c2 k4_6
noncomputable def k4_8 := c2 (c1 k4_5)
noncomputable def k4_9 := c1 (c1 k4_8)
noncomputable def k4_10 := c2 k4_9
noncomputable def k4_11 := c2 k4_10
noncomputable def k4_12 := c2 (c1 (c1 k4_10))
noncomputable def k4_13 := c2 k4_12
noncomputable def k4_14 := c2 k4_13
noncomputable def k4_15 := c2 k4_14
noncomputable def k4_16 := c2 k4_15
noncomputable def k4_17 := c2 k4_16
noncomputable def k4_18 := c2 k4_17
noncomputable def k4_19 := c2 k4_18
noncomputable def k4_20 := c2 (c1 k4_19)
noncomputable def k4_21 := c2 (c1 k4_15)
noncomputable def k4_22 := c2 (c1 k4_21)
noncomputable def k4_23 := c2 (c1 k4_22)
noncomputable def k4_24 := c2 (c1 k4_23)
noncomputable def k4_25 := c2 (c2 k4_22)
noncomputable def k4_26 := c2 (c1 k4_25)
noncomputable def k4_27 := c2 (c2 k4_25)
noncomputable def k4_28 := c2 (c1 k4_27)
noncomputable def k4_29 := c2 (c2 k4_27)
noncomputable def k4_30 := c2 (c1 k4_29)
noncomputable def k4_31 := c2 (c1 (c1 k4_21))
noncomputable def k4_32 := c2 (c2 k4_31)
noncomputable def k4_33 := c2 (c1 k4_14)
noncomputable def k4_34 := c2 (c1 k4_13)
noncomputable def k4_35 := c2 (c1 k4_9)
noncomputable def k4_36 := c2 (c1 k4_4)
noncomputable def k4_37 := c2 (c1 k4_36)
noncomputable def k4_38 := c2 (c1 k4_3)
noncomputable def k4_39 := c2 (c1 k4_38)
abbrev hR4 (R : VP) (Q : EQ) : Prop := ∀ e w, (R (e 4) w) → Q .ret e w
theorem s4_39 (hR : hR4 R Q) (e : Env) (w : World) (h : m4_39 R (e 4) w) : W4 k4_39 Q e w := by
  exact reA (hR _ _ h)
theorem s4_37 (hR : hR4 R Q) (e : Env) (w : World) (h : m4_37 R (e 4) w) : W4 k4_37 Q e w := by
  exact reA (hR _ _ h)
theorem s4_24 {K1 : VP} (hR : hR4 R Q) (e : Env) (w : World) (h : m4_24 R K1 (e 4) w) : W4 k4_24 Q e w := by
  exact reA (hR _ _ h)
theorem s4_20 {K1 : VP} (hR : hR4 R Q) (e : Env) (w : World) (h : m4_20 R K1 (e 4) w) : W4 k4_20 Q e w := by
  exact reA (hR _ _ h)
theorem s4_11 {K1 : VP} (hN : ∀ e w, (K1 (e 9) w) → Q .normal e w) (e : Env) (w : World) (h : m4_11 R K1 (e 1) (e 5) (e 7) (e 9) w) : W4 k4_11 Q e w := by
  exact rgA 9 (fun e w => K1 (e 9) w) h hN
theorem s4_19 {K1 : VP} (hN : ∀ e w, (m4_11 R K1 (e 1) (e 5) (e 7) (e 9) w) → Q .normal e w) (hR : hR4 R Q) (e : Env) (w : World) (h : m4_19 R K1 (e 1) (e 5) (e 7) (e 9) (e 141) w) : W4 k4_19 Q e w := by
  refine coA (Operand.tmp 141) h (fun h1 => ?_) (fun h1 => ?_)
  · refine seA ?_
    exact rgA 34 (fun e w => m4_20 R K1 (e 4) w) h1 fun e w h => then_N (s4_20 hR e w h)
  · exact skA (hN _ _ h1)
theorem s4_18 {K1 : VP} (hN : ∀ e w, (m4_11 R K1 (e 1) (e 5) (e 7) (e 9) w) → Q .normal e w) (hR : hR4 R Q) (e : Env) (w : World) (h : m4_18 R K1 (e 1) (e 5) (e 7) (e 9) (e 11) (e 12) (e 13) (e 14) w) : W4 k4_18 Q e w := by
  refine seA ?_
  exact rgA 33 (fun e w => m4_19 R K1 (e 1) (e 5) (e 7) (e 9) (e 141) w) h fun e w h => then_N (s4_19 hN hR e w h)
theorem s4_17 {K1 : VP} (hN : ∀ e w, (m4_11 R K1 (e 1) (e 5) (e 7) (e 9) w) → Q .normal e w) (hR : hR4 R Q) (e : Env) (w : World) (h : m4_17 R K1 (e 1) (e 5) (e 7) (e 9) (e 10) (e 11) (e 12) w) : W4 k4_17 Q e w := by
  refine seA ?_
  exact rgA 32 (fun e w => m4_18 R K1 (e 1) (e 5) (e 7) (e 9) (e 11) (e 12) (e 13) (e 14) w) h fun e w h => then_N (s4_18 hN hR e w h)
theorem s4_16 {K1 : VP} (hN : ∀ e w, (m4_11 R K1 (e 1) (e 5) (e 7) (e 9) w) → Q .normal e w) (hR : hR4 R Q) (e : Env) (w : World) (h : m4_16 R K1 (e 1) (e 5) (e 7) (e 9) (e 10) w) : W4 k4_16 Q e w := by
  refine seA ?_
  exact rgA 31 (fun e w => m4_17 R K1 (e 1) (e 5) (e 7) (e 9) (e 10) (e 11) (e 12) w) h fun e w h => then_N (s4_17 hN hR e w h)
theorem s4_23 {K1 : VP} (hN : ∀ e w, (m4_16 R K1 (e 1) (e 5) (e 7) (e 9) (e 10) w) → Q .normal e w) (hR : hR4 R Q) (e : Env) (w : World) (h : m4_23 R K1 (e 1) (e 5) (e 7) (e 9) (e 10) (e 82) w) : W4 k4_23 Q e w := by
  refine coA (Operand.tmp 82) h (fun h1 => ?_) (fun h1 => ?_)
  · refine seA ?_
    exact rgA 21 (fun e w => m4_24 R K1 (e 4) w) h1 fun e w h => then_N (s4_24 hR e w h)
  · exact skA (hN _ _ h1)
theorem s4_26 {K1 : VP} (hN : ∀ e w, (m4_16 R K1 (e 1) (e 5) (e 7) (e 9) (e 10) w) → Q .normal e w) (e : Env) (w : World) (h : m4_26 R K1 (e 1) (e 5) (e 7) (e 9) (e 10) w) : W4 k4_26 Q e w := by
  exact rgA 24 (fun e w => m4_16 R K1 (e 1) (e 5) (e 7) (e 9) (e 10) w) h hN
theorem s4_28 {K1 : VP} (hN : ∀ e w, (m4_16 R K1 (e 1) (e 5) (e 7) (e 9) (e 10) w) → Q .normal e w) (e : Env) (w : World) (h : m4_28 R K1 (e 1) (e 5) (e 7) (e 9) (e 10) w) : W4 k4_28 Q e w := by
  exact rgA 27 (fun e w => m4_16 R K1 (e 1) (e 5) (e 7) (e 9) (e 10) w) h hN
theorem s4_30 {K1 : VP} (hN : ∀ e w, (m4_16 R K1 (e 1) (e 5) (e 7) (e 9) (e 10) w) → Q .normal e w) (e : Env) (w : World) (h : m4_30 R K1 (e 1) (e 5) (e 7) (e 9) (e 10) w) : W4 k4_30 Q e w := by
  exact rgA 30 (fun e w => m4_16 R K1 (e 1) (e 5) (e 7) (e 9) (e 10) w) h hN
theorem s4_29 {K1 : VP} (hN : ∀ e w, (m4_16 R K1 (e 1) (e 5) (e 7) (e 9) (e 10) w) → Q .normal e w) (e : Env) (w : World) (h : m4_29 R K1 (e 1) (e 5) (e 7) (e 9) (e 10) (e 102) w) : W4 k4_29 Q e w := by
  refine coA (Operand.tmp 102) h (fun h1 => ?_) (fun h1 => ?_)
  · refine seA ?_
    exact rgA 29 (fun e w => m4_30 R K1 (e 1) (e 5) (e 7) (e 9) (e 10) w) h1 fun e w h => then_N (s4_30 hN e w h)
  · exact skA (hN _ _ h1)
theorem s4_27 {K1 : VP} (hN : ∀ e w, (m4_16 R K1 (e 1) (e 5) (e 7) (e 9) (e 10) w) → Q .normal e w) (e : Env) (w : World) (h : m4_27 R K1 (e 1) (e 5) (e 7) (e 9) (e 10) (e 66) (e 92) w) : W4 k4_27 Q e w := by
  refine coA (Operand.tmp 92) h (fun h1 => ?_) (fun h1 => ?_)
  · refine seA ?_
    exact rgA 26 (fun e w => m4_28 R K1 (e 1) (e 5) (e 7) (e 9) (e 10) w) h1 fun e w h => then_N (s4_28 hN e w h)
  · refine seA ?_
    exact rgA 28 (fun e w => m4_29 R K1 (e 1) (e 5) (e 7) (e 9) (e 10) (e 102) w) h1 fun e w h => then_N (s4_29 hN e w h)
theorem s4_25 {K1 : VP} (hN : ∀ e w, (m4_16 R K1 (e 1) (e 5) (e 7) (e 9) (e 10) w) → Q .normal e w) (e : Env) (w : World) (h : m4_25 R K1 (e 1) (e 5) (e 7) (e 9) (e 10) (e 66) (e 83) w) : W4 k4_25 Q e w := by
  refine coA (Operand.tmp 83) h (fun h1 => ?_) (fun h1 => ?_)
  · refine seA ?_
    exact rgA 23 (fun e w => m4_26 R K1 (e 1) (e 5) (e 7) (e 9) (e 10) w) h1 fun e w h => then_N (s4_26 hN e w h)
  · refine seA ?_
    exact rgA 25 (fun e w => m4_27 R K1 (e 1) (e 5) (e 7) (e 9) (e 10) (e 66) (e 92) w) h1 fun e w h => then_N (s4_27 hN e w h)
theorem s4_22 {K1 : VP} (hN : ∀ e w, (m4_16 R K1 (e 1) (e 5) (e 7) (e 9) (e 10) w) → Q .normal e w) (hR : hR4 R Q) (e : Env) (w : World) (h : m4_22 R K1 (e 1) (e 5) (e 7) (e 9) (e 10) (e 66) (e 67) w) : W4 k4_22 Q e w := by
  refine coA (Operand.tmp 67) h (fun h1 => ?_) (fun h1 => ?_)
  · refine seA ?_
    have hN : ∀ e w, (m4_23 R K1 (e 1) (e 5) (e 7) (e 9) (e 10) (e 82) w) → (thenE (W4 k4_23 Q) Q) .normal e w := fun e w h => then_N (s4_23 hN hR e w h)
    exact treeJ_ok 20 12 (bt 12 0) (.take 0 (bt 12 1) (.take 1 (bt 12 3) (.take 2 (bt 12 7) (.take 3 (bt 12 15) (.take 4 (bt 12 31) (.take 6 (bt 12 95) (.take 7 (bt 12 223) (.take 8 (bt 12 479) (.take 9 (bt 12 991) (.alt 5 (bt 12 1023) (.alt 10 (bt 12 2047) (.take 11 (bt 12 4095) .done) .stop) .stop)))))))))) (fun e w => m4_23 R K1 (e 1) (e 5) (e 7) (e 9) (e 10) (e 82) w) (by kernel_rfl) (by kernel_rfl) (by kernel_rfl) (by kernel_rfl) (by kernel_rfl) (by kernel_rfl) (kcast (by kernel_rfl) h1) hN (by kernel_rfl)
  · refine seA ?_
    exact rgA 22 (fun e w => m4_25 R K1 (e 1) (e 5) (e 7) (e 9) (e 10) (e 66) (e 83) w) h1 fun e w h => then_N (s4_25 hN e w h)
theorem s4_32 {K1 : VP} (hN : ∀ e w, (m4_22 R K1 (e 1) (e 5) (e 7) (e 9) (e 10) (e 66) (e 67) w) → Q .normal e w) (e : Env) (w : World) (h : m4_32 R K1 (e 1) (e 5) (e 7) (e 9) (e 10) (e 66) (e 67) w) : W4 k4_32 Q e w := by
  refine coA (Operand.tmp 67) h (fun h1 => ?_) (fun h1 => ?_)
  · exact skA (hN _ _ h1)
  · exact rgA 19 (fun e w => m4_22 R K1 (e 1) (e 5) (e 7) (e 9) (e 10) (e 66) (e 67) w) h1 hN
theorem s4_31 {K1 : VP} (hN : ∀ e w, (m4_22 R K1 (e 1) (e 5) (e 7) (e 9) (e 10) (e 66) (e 67) w) → Q .normal e w) (e : Env) (w : World) (h : m4_31 R K1 (e 1) (e 5) (e 7) (e 9) (e 10) (e 66) (e 67) w) : W4 k4_31 Q e w := by
  refine coA (Operand.tmp 67) h (fun h1 => ?_) (fun h1 => ?_)
  · exact skA (hN _ _ h1)
  · refine seA ?_
    exact rgA 18 (fun e w => m4_32 R K1 (e 1) (e 5) (e 7) (e 9) (e 10) (e 66) (e 67) w) h1 fun e w h => then_N (s4_32 hN e w h)
theorem s4_21 {K1 : VP} (hN : ∀ e w, (m4_16 R K1 (e 1) (e 5) (e 7) (e 9) (e 10) w) → Q .normal e w) (hR : hR4 R Q) (e : Env) (w : World) (h : m4_21 R K1 (e 1) (e 5) (e 7) (e 9) (e 10) (e 66) w) : W4 k4_21 Q e w := by
  refine block_ok 2 (by kernel_rfl) ?_
  have hN : ∀ e w, (m4_16 R K1 (e 1) (e 5) (e 7) (e 9) (e 10) w) → (inBlockE 2 Q) .normal e w := fun e w h => block_N (hN e w h)
  have hR : hR4 R (inBlockE 2 Q) := fun e w h => block_R (hR e w h)
  refine seA ?_
  have hN : ∀ e w, (m4_22 R K1 (e 1) (e 5) (e 7) (e 9) (e 10) (e 66) (e 67) w) → (thenE (W4 k4_22 (inBlockE 2 Q)) (inBlockE 2 Q)) .normal e w := fun e w h => then_N (s4_22 (R := R) (Q := (inBlockE 2 Q)) hN hR e w h)
  refine seA ?_
  exact rgA 17 (fun e w => m4_31 R K1 (e 1) (e 5) (e 7) (e 9) (e 10) (e 66) (e 67) w) h fun e w h => then_N (s4_31 hN e w h)
theorem s4_15 {K1 : VP} (hN : ∀ e w, (m4_11 R K1 (e 1) (e 5) (e 7) (e 9) w) → Q .normal e w) (hR : hR4 R Q) (e : Env) (w : World) (h : m4_15 R K1 (e 1) (e 5) (e 7) (e 9) (e 10) w) : W4 k4_15 Q e w := by
  refine seA ?_
  have hN : ∀ e w, (m4_16 R K1 (e 1) (e 5) (e 7) (e 9) (e 10) w) → (thenE (W4 k4_16 Q) Q) .normal e w := fun e w h => then_N (s4_16 hN hR e w h)
  have hR : hR4 R (thenE (W4 k4_16 Q) Q) := fun e w h => then_R (hR e w h)
  refine seA ?_
  exact rgA 16 (fun e w => m4_21 R K1 (e 1) (e 5) (e 7) (e 9) (e 10) (e 66) w) h fun e w h => then_N (s4_21 hN hR e w h)
theorem s4_33 {K1 : VP} (hN : ∀ e w, (m4_15 R K1 (e 1) (e 5) (e 7) (e 9) (e 10) w) → Q .normal e w) (e : Env) (w : World) (h : m4_33 R K1 (e 1) (e 5) (e 7) (e 9) (e 10) (e 60) w) : W4 k4_33 Q e w := by
  refine coA (Operand.tmp 60) h (fun h1 => ?_) (fun h1 => ?_)
  · exact rgA 15 (fun e w => m4_15 R K1 (e 1) (e 5) (e 7) (e 9) (e 10) w) h1 hN
  · exact skA (hN _ _ h1)
theorem s4_14 {K1 : VP} (hN : ∀ e w, (m4_11 R K1 (e 1) (e 5) (e 7) (e 9) w) → Q .normal e w) (hR : hR4 R Q) (e : Env) (w : World) (h : m4_14 R K1 (e 1) (e 5) (e 7) (e 9) (e 10) w) : W4 k4_14 Q e w := by
  refine seA ?_
  have hN : ∀ e w, (m4_15 R K1 (e 1) (e 5) (e 7) (e 9) (e 10) w) → (thenE (W4 k4_15 Q) Q) .normal e w := fun e w h => then_N (s4_15 hN hR e w h)
  refine seA ?_
  exact rgA 14 (fun e w => m4_33 R K1 (e 1) (e 5) (e 7) (e 9) (e 10) (e 60) w) h fun e w h => then_N (s4_33 hN e w h)
theorem s4_34 {K1 : VP} (hN : ∀ e w, (m4_14 R K1 (e 1) (e 5) (e 7) (e 9) (e 10) w) → Q .normal e w) (e : Env) (w : World) (h : m4_34 R K1 (e 1) (e 5) (e 7) (e 9) (e 10) (e 52) w) : W4 k4_34 Q e w := by
  refine coA (Operand.tmp 52) h (fun h1 => ?_) (fun h1 => ?_)
  · exact rgA 13 (fun e w => m4_14 R K1 (e 1) (e 5) (e 7) (e 9) (e 10) w) h1 hN
  · exact skA (hN _ _ h1)
theorem s4_13 {K1 : VP} (hN : ∀ e w, (m4_11 R K1 (e 1) (e 5) (e 7) (e 9) w) → Q .normal e w) (hR : hR4 R Q) (e : Env) (w : World) (h : m4_13 R K1 (e 1) (e 5) (e 7) (e 9) (e 10) w) : W4 k4_13 Q e w := by
  refine seA ?_
  have hN : ∀ e w, (m4_14 R K1 (e 1) (e 5) (e 7) (e 9) (e 10) w) → (thenE (W4 k4_14 Q) Q) .normal e w := fun e w h => then_N (s4_14 hN hR e w h)
  refine seA ?_
  exact rgA 12 (fun e w => m4_34 R K1 (e 1) (e 5) (e 7) (e 9) (e 10) (e 52) w) h fun e w h => then_N (s4_34 hN e w h)
theorem s4_12 {K1 : VP} (hN : ∀ e w, (m4_11 R K1 (e 1) (e 5) (e 7) (e 9) w) → Q .normal e w) (hR : hR4 R Q) (e : Env) (w : World) (h : m4_12 R K1 (e 1) (e 5) (e 7) (e 9) (e 10) w) : W4 k4_12 Q e w := by
  refine seA ?_
  exact rgA 11 (fun e w => m4_13 R K1 (e 1) (e 5) (e 7) (e 9) (e 10) w) h fun e w h => then_N (s4_13 hN hR e w h)
theorem s4_10 {K1 : VP} (hN : ∀ e w, (K1 (e 9) w) → Q .normal e w) (hR : hR4 R Q) (e : Env) (w : World) (h : m4_10 R K1 (e 1) (e 5) (e 7) (e 9) w) : W4 k4_10 Q e w := by
  refine seA ?_
  have hN : ∀ e w, (m4_11 R K1 (e 1) (e 5) (e 7) (e 9) w) → (thenE (W4 k4_11 Q) Q) .normal e w := fun e w h => then_N (s4_11 hN e w h)
  have hR : hR4 R (thenE (W4 k4_11 Q) Q) := fun e w h => then_R (hR e w h)
  refine block_ok 1 (by kernel_rfl) ?_
  have hN : ∀ e w, (m4_11 R K1 (e 1) (e 5) (e 7) (e 9) w) → (inBlockE 1 (thenE (W4 k4_11 Q) Q)) .normal e w := fun e w h => block_N (hN e w h)
  have hR : hR4 R (inBlockE 1 (thenE (W4 k4_11 Q) Q)) := fun e w h => block_R (hR e w h)
  refine seA ?_
  exact rgA 10 (fun e w => m4_12 R K1 (e 1) (e 5) (e 7) (e 9) (e 10) w) h fun e w h => then_N (s4_12 (R := R) (Q := (inBlockE 1 (thenE (W4 k4_11 Q) Q))) hN hR e w h)
theorem s4_7 (hR : hR4 R Q) (e : Env) (w : World) (h : m4_7 R (e 4) w) : W4 k4_7 Q e w := by
  exact reA (hR _ _ h)
theorem s4_6 (hR : hR4 R Q) (e : Env) (w : World) (h : m4_6 R w) : W4 k4_6 Q e w := by
  refine seA ?_
  exact rgA 35 (fun e w => m4_7 R (e 4) w) h fun e w h => then_N (s4_7 hR e w h)
theorem s4_35 {K1 : VP} (hN : ∀ e w, (m4_10 R K1 (e 1) (e 5) (e 7) (e 9) w) → Q .normal e w) (hX0 : ∀ e w, (m4_6 R w) → Q (.exit 0) e w) (e : Env) (w : World) (h : m4_35 R K1 (e 1) (e 5) (e 7) (e 9) (e 38) w) : W4 k4_35 Q e w := by
  refine coA (Operand.tmp 38) h (fun h1 => ?_) (fun h1 => ?_)
  · exact skA (hN _ _ h1)
  · exact exA 0 (hX0 _ _ h1)
theorem s4_9 {K1 : VP} (hN : ∀ e w, (K1 (e 9) w) → Q .normal e w) (hR : hR4 R Q) (hX0 : ∀ e w, (m4_6 R w) → Q (.exit 0) e w) (e : Env) (w : World) (h : m4_9 R K1 (e 1) (e 5) (e 7) (e 9) w) : W4 k4_9 Q e w := by
  refine seA ?_
  have hN : ∀ e w, (m4_10 R K1 (e 1) (e 5) (e 7) (e 9) w) → (thenE (W4 k4_10 Q) Q) .normal e w := fun e w h => then_N (s4_10 hN hR e w h)
  have hX0 : ∀ e w, (m4_6 R w) → (thenE (W4 k4_10 Q) Q) (.exit 0) e w := fun e w h => then_X (hX0 e w h)
  refine seA ?_
  exact rgA 8 (fun e w => m4_35 R K1 (e 1) (e 5) (e 7) (e 9) (e 38) w) h fun e w h => then_N (s4_35 hN hX0 e w h)
theorem s4_8 (hN : ∀ e w, (m4_6 R w) → Q .normal e w) (hR : hR4 R Q) (e : Env) (w : World) (h : m4_8 R (e 1) (e 5) (e 7) (e 9) w) : W4 k4_8 Q e w := by
  refine block_ok 0 (by kernel_rfl) ?_
  have hX0 : ∀ e w, (m4_6 R w) → (inBlockE 0 Q) (.exit 0) e w := fun e w h => inBlock_same (Q := Q) 0 (hN e w h)
  have hR : hR4 R (inBlockE 0 Q) := fun e w h => block_R (hR e w h)
  refine loop_ok' (fun (e : Env) => e 9) [1, 5, 7] (by kernel_rfl) (by kernel_rfl) h (fun K e' w' hk h' => ?_)
  have r1 : e' 1 = e 1 := hk 1 (by decide)
  have r5 : e' 5 = e 5 := hk 5 (by decide)
  have r7 : e' 7 = e 7 := hk 7 (by decide)
  have hR : hR4 R (thenE (fun (e : Env) w => K (e 9) w) (inBlockE 0 Q)) := fun e w h => then_R (hR e w h)
  have hX0 : ∀ e w, (m4_6 R w) → (thenE (fun (e : Env) w => K (e 9) w) (inBlockE 0 Q)) (.exit 0) e w := fun e w h => then_X (hX0 e w h)
  exact s4_9 (K1 := K) (fun _ _ h => then_N h) hR hX0 e' w' (by rw [r1, r5, r7]; exact h')
theorem s4_5 (hR : hR4 R Q) (e : Env) (w : World) (h : m4_5 R (e 1) (e 5) (e 7) w) : W4 k4_5 Q e w := by
  refine seA ?_
  have hN : ∀ e w, (m4_6 R w) → (thenE (W4 k4_6 Q) Q) .normal e w := fun e w h => then_N (s4_6 hR e w h)
  have hR : hR4 R (thenE (W4 k4_6 Q) Q) := fun e w h => then_R (hR e w h)
  refine seA ?_
  exact rgA 7 (fun e w => m4_8 R (e 1) (e 5) (e 7) (e 9) w) h fun e w h => then_N (s4_8 hN hR e w h)
theorem s4_36 (hN : ∀ e w, (m4_5 R (e 1) (e 5) (e 7) w) → Q .normal e w) (hR : hR4 R Q) (e : Env) (w : World) (h : m4_36 R (e 1) (e 5) (e 7) (e 29) w) : W4 k4_36 Q e w := by
  refine coA (Operand.tmp 29) h (fun h1 => ?_) (fun h1 => ?_)
  · refine seA ?_
    exact rgA 6 (fun e w => m4_37 R (e 4) w) h1 fun e w h => then_N (s4_37 hR e w h)
  · exact skA (hN _ _ h1)
theorem s4_4 (hR : hR4 R Q) (e : Env) (w : World) (h : m4_4 R (e 1) (e 5) (e 7) w) : W4 k4_4 Q e w := by
  refine seA ?_
  have hN : ∀ e w, (m4_5 R (e 1) (e 5) (e 7) w) → (thenE (W4 k4_5 Q) Q) .normal e w := fun e w h => then_N (s4_5 hR e w h)
  have hR : hR4 R (thenE (W4 k4_5 Q) Q) := fun e w h => then_R (hR e w h)
  refine seA ?_
  exact rgA 5 (fun e w => m4_36 R (e 1) (e 5) (e 7) (e 29) w) h fun e w h => then_N (s4_36 hN hR e w h)
theorem s4_38 (hN : ∀ e w, (m4_4 R (e 1) (e 5) (e 7) w) → Q .normal e w) (hR : hR4 R Q) (e : Env) (w : World) (h : m4_38 R (e 1) (e 5) (e 7) (e 27) w) : W4 k4_38 Q e w := by
  refine coA (Operand.tmp 27) h (fun h1 => ?_) (fun h1 => ?_)
  · refine seA ?_
    exact rgA 4 (fun e w => m4_39 R (e 4) w) h1 fun e w h => then_N (s4_39 hR e w h)
  · exact skA (hN _ _ h1)
theorem s4_3 (hR : hR4 R Q) (e : Env) (w : World) (h : m4_3 R (e 1) (e 5) (e 6) (e 7) (e 8) w) : W4 k4_3 Q e w := by
  refine seA ?_
  have hN : ∀ e w, (m4_4 R (e 1) (e 5) (e 7) w) → (thenE (W4 k4_4 Q) Q) .normal e w := fun e w h => then_N (s4_4 hR e w h)
  have hR : hR4 R (thenE (W4 k4_4 Q) Q) := fun e w h => then_R (hR e w h)
  refine seA ?_
  exact rgA 3 (fun e w => m4_38 R (e 1) (e 5) (e 7) (e 27) w) h fun e w h => then_N (s4_38 hN hR e w h)
theorem s4_2 (hR : hR4 R Q) (e : Env) (w : World) (h : m4_2 R (e 0) (e 1) (e 5) (e 6) w) : W4 k4_2 Q e w := by
  refine seA ?_
  exact rgA 2 (fun e w => m4_3 R (e 1) (e 5) (e 6) (e 7) (e 8) w) h fun e w h => then_N (s4_3 hR e w h)
theorem s4_1 (hR : hR4 R Q) (e : Env) (w : World) (h : m4_1 R (e 0) (e 1) w) : W4 k4_1 Q e w := by
  refine seA ?_
  exact rgA 1 (fun e w => m4_2 R (e 0) (e 1) (e 5) (e 6) w) h fun e w h => then_N (s4_2 hR e w h)
theorem s4_0 (hR : hR4 R Q) (e : Env) (w : World) (h : m4_0 R (e 0) (e 1) w) : W4 k4_0 Q e w := by
  refine seA ?_
  exact rgA 0 (fun e w => m4_1 R (e 0) (e 1) w) h fun e w h => then_N (s4_1 hR e w h)
abbrev m4 (R : VP) (size0 l1 : Value) (w : World) : Prop := m4_0 R size0 l1 w
theorem s4 (size0 l1 : Value) {R : VP} {w : World} (h : m4 R size0 l1 w) :
    Calls Tryz.prog 4 #[size0, l1] w fun e w' => ∃ v, e = .returned v ∧ R v w' :=
  calls_of_cwp (st := (fun i => 0)) (c := k4_0) (by kernel_rfl) Tryz.func4 (by kernel_rfl) (Nat.le_of_ble_eq_true (by kernel_rfl)) (by kernel_rfl)
    (s4_0 (R := R) (Q := endE Tryz.prog Tryz.f4 R) (fun e w h => kcast (by kernel_rfl) h) (argsE #[size0, l1]) w (kcast (by kernel_rfl) h))
end Go.Proofs.YtcldjjmfpmkldaaGreatDoor.M
namespace Go.Proofs.YtcldjjmfpmkldaaGreatDoor.M
open Go.Proofs.YtcldjjmfpmkldaaGreatDoor.F Go.RowKit
set_option linter.unusedVariables false
set_option linter.unusedSimpArgs false
set_option maxRecDepth 100000
set_option maxHeartbeats 2000000
attribute [local irreducible] Res.cells Res.row Res.map Res.any World.cell? World.frozen? Instr.fieldAt Instr.loadAt Instr.storeAt Instr.indexAt Instr.lookup Instr.mapUpdate Instr.box Instr.build Instr.buildSlice Instr.extract Instr.alloc Instr.field Instr.index Instr.sliceAt Instr.makeSlice Instr.makeMap Instr.makeFunc binS Op.unary Sem.run
structure Sd where
  kind : Int
  n : Int
  name : ByteArray
  s : ByteArray
  A : Option Addr
  c : Nat
  l : List Gt
  Ak : Option Addr
  ck : Nat
  keep : List Int
abbrev encSd (x : Sd) : List Value := [.int .i64 x.kind, .int .i64 x.n, .string x.name, .string x.s, .slice x.A x.l.length x.c, .slice x.Ak x.keep.length x.ck]
theorem encSd_len : ∀ g, (encSd g).length = 6 := fun _ => rfl
def SdOk (w0 : World) (x : Sd) : Prop := (-9223372036854775808 ≤ x.n ∧ x.n ≤ 9223372036854775807) ∧ (x.l.length ≤ x.c ∧ Rd w0 4 x.A x.l.length (x.l.flatMap encG) ∧ ∀ g ∈ x.l, GtOk g) ∧ x.keep.length ≤ x.ck ∧ Rd w0 1 x.Ak x.keep.length (x.keep.map (Value.int .i64))
theorem cut_s {l : List Gt} (h : ∀ g ∈ l, GtOk g) : ∀ g ∈ (l.take 150).map cutG, GtS g := fun g hg => by
  refine ⟨cut_ok h g hg, ?_⟩
  obtain ⟨x, hx, rfl⟩ := List.mem_map.1 hg
  show (cutT x.r.text).size ≤ 1000
  unfold cutT
  split
  · rw [ext_size _ _ _ (by omega)]; omega
  · omega
theorem iFlatE (l : List Int) : l.flatMap (fun x => [Value.int .i64 x]) = l.map (Value.int .i64) := by
  induction l with
  | nil => rfl
  | cons x l ih => rw [List.flatMap_cons, ih]; rfl
section
variable {w0 w : World} {F : List Nat} {L R : List Res} {b bq size b10 : Nat} {D Q : Dk}
theorem opened {d m q r : Res} {Y : List Res} : (R ++ (d :: m :: (Y ++ (q :: r :: L)))).Perm (d :: m :: (Y ++ (q :: r :: (R ++ L)))) := by
  have := List.perm_append_comm_assoc R (d :: m :: (Y ++ [q, r])) L
  simpa [List.append_assoc] using this
theorem Both.open_ (R : List Res) (hB : Both w0 F (R ++ L) b bq size D Q w) : ∃ A c mb X, X.map Prod.fst = D.L ∧ St w0 F w (R ++ (dCell b (.map (some mb)) D.room D.fuse D.off :: mapD mb X :: (X.map fileR ++ (qCell bq A c Q size :: flRow A c Q.L :: L)))) := by
  obtain ⟨A, c, mb, X, hX, hS⟩ := hB
  exact ⟨A, c, mb, X, hX, hS.perm opened.symm⟩
theorem Both.close (R : List Res) {A : Option Addr} {c mb : Nat} {X : List (Fl × Nat)} (hX : X.map Prod.fst = D.L) (hS : St w0 F w (R ++ (dCell b (.map (some mb)) D.room D.fuse D.off :: mapD mb X :: (X.map fileR ++ (qCell bq A c Q size :: flRow A c Q.L :: L))))) : Both w0 F (R ++ L) b bq size D Q w := ⟨A, c, mb, X, hX, hS.perm opened⟩
theorem Both.cell {t : TypeId} {cs : List Value} {i : Nat} {v : Value} (hB : Both w0 F L b bq size D Q w) (hm : Res.cells b10 t cs ∈ L) (hi : cs[i]? = some v) : w.cell? ⟨b10, i, none⟩ = some v := by
  obtain ⟨L', hL, hS⟩ := hB.st
  exact cell_in hS (hL _ hm) hi
theorem load_both {name : ByteArray} (hO : Ok size D) (hB : Both w0 F L b bq size D Q w) : Ret Tryz.prog 10 #[ptr b, .string name] w fun v w' => ∃ A c, v = .tuple #[.slice A (loadL D name).1.length c, .int .i64 (loadL D name).2] ∧ Both w0 F (grow A c (loadL D name).1 :: L) b bq size D Q w' := by
  obtain ⟨Aq, cq, hD⟩ := hB
  refine (load_ret hO hD).mono fun v w' ⟨A, c, hv, hD⟩ => ⟨A, c, hv, Aq, cq, hD.perm ?_⟩
  exact (List.Perm.swap _ _ _).trans ((List.Perm.swap _ _ _).cons _)
theorem qload_both {name : ByteArray} (hO : Ok size Q) (hB : Both w0 F L b bq size D Q w) : Ret Tryz.prog 19 #[ptr bq, .string name] w fun v w' => ∃ A c, v = .tuple #[.slice A (loadL Q name).1.length c, .int .i64 (loadL Q name).2] ∧ Both w0 F (grow A c (loadL Q name).1 :: L) b bq size D Q w' := by
  obtain ⟨mb, X, hX, hQ⟩ := hB.toQ
  refine (qload_ret hO hQ).mono ?_
  rintro v w' ⟨A, c, hv, Aq, cq, hS⟩
  refine ⟨A, c, hv, Both.ofQ (mb := mb) hX ⟨Aq, cq, ?_⟩⟩
  refine hS.perm (List.Perm.cons _ (List.Perm.cons _ ?_))
  refine (List.Perm.swap _ _ _).trans (List.Perm.cons _ ((List.Perm.swap _ _ _).trans (List.Perm.cons _ ?_)))
  exact List.perm_middle.symm
section
variable {A Ag : Option Addr} {c cg i : Nat} {l : List Sd} {ls : List Gt} {kind n : Int} {name s : ByteArray} {Ak : Option Addr} {ck : Nat} {kp : List Int} {K1 : Value → World → Prop}
def SvsR (w0 : World) (v : Value) (w' : World) : Prop := v = .bool true ∧ ∃ L', St w0 [] w' L'
abbrev xCell (b10 : Nat) (kind n : Int) (name s : ByteArray) (Ag : Option Addr) (cg : Nat) (ls : List Gt) (Ak : Option Addr) (ck : Nat) (kp : List Int) : Res := Res.cells b10 45 [.int .i64 kind, .int .i64 n, .string name, .string s, .slice Ag ls.length cg, .slice Ak kp.length ck]
abbrev SvL (b10 : Nat) (kind n : Int) (name s : ByteArray) (Ag : Option Addr) (cg : Nat) (ls : List Gt) (Ak : Option Addr) (ck : Nat) (kp : List Int) : List Res := [xCell b10 kind n name s Ag cg ls Ak ck kp, grow Ag cg ls]
def SvK (w0 : World) (b bq size i : Nat) (K1 : Value → World → Prop) : Prop := ∀ D w, Ok size D → Both w0 [] [] b bq size D D w → K1 (.int .i64 ((i + 1 : Nat) : Int)) w
theorem saves_16 (hi : i ≤ 1000) (hls : ls.length ≤ 150) (hO : Ok size D) (hB : Both w0 [] (SvL b10 kind n name s Ag cg ls Ak ck kp) b bq size D D w) (hK : SvK w0 b bq size i K1) : m4_16 (SvsR w0) K1 (.slice A l.length c) (ptr b) (ptr bq) (.int .i64 (i : Int)) (ptr b10) w := by
  have hsz : (loadL D name).1.length ≤ 4096 := by
    unfold loadL
    split
    · split
      · cases hd : decS (readV D name).1 with
        | none => exact Nat.zero_le _
        | some x =>
          show x.length ≤ 4096
          unfold decS at hd
          split at hd
          · cases hd
          · split at hd
            · cases hd
            · split at hd
              · split at hd
                · cases hd
                · split at hd
                  · rename_i h2
                    obtain rfl := Option.some.inj hd
                    exact h2.2.2
                  · cases hd
              · cases hd
      · exact Nat.zero_le _
    · exact Nat.zero_le _
  unfold m4_16
  refine valP_ok (fa45_2 _ _) ?_
  refine valP_ok (ld9 (hB.cell (.head _) (i := 2) rfl)) ?_
  refine callR (by kernel_rfl) (load_both hO hB) ?_
  rintro _ w ⟨A1, c1, rfl, hB⟩
  refine valP_ok (extract_ok _ 0 rfl _) ?_
  refine valP_ok (extract_ok _ 1 rfl _) ?_
  unfold m4_17
  refine valP_ok (fa45_2 _ _) ?_
  refine valP_ok (ld9 (hB.cell (.tail _ (.head _)) (i := 2) rfl)) ?_
  refine callR (by kernel_rfl) (qload_both hO hB) ?_
  rintro _ w ⟨A2, c2, rfl, hB⟩
  refine valP_ok (extract_ok _ 0 rfl _) ?_
  refine valP_ok (extract_ok _ 1 rfl _) ?_
  generalize loadL D name = p at *
  have hB1 : BG w0 [] (grow A2 c2 p.1 :: grow A1 c1 p.1 :: SvL b10 kind n name s Ag cg ls Ak ck kp) A1 p.1 := Bes.of_row 1 rfl
  have hB2 : BG w0 [] (grow A2 c2 p.1 :: grow A1 c1 p.1 :: SvL b10 kind n name s Ag cg ls Ak ck kp) A2 p.1 := Bes.of_row 0 rfl
  unfold m4_18
  refine callR (by kernel_rfl) (hB.with fun L' hL' hS => samegot_ret (by omega) (by omega) (hB1.mono hL') (hB2.mono hL') hS) ?_
  rintro _ w ⟨⟨t, rfl, ht⟩, hB⟩
  obtain rfl := ht.2 rfl
  have hB := hB.pop.pop.pop.pop
  refine valP_ok (notb_ok _ _) ?_
  refine cond_f rfl ?_
  refine valP_ok (ne3 _ _ _ _ _) ?_
  refine pick_f (by first | rfl | assumption) ?_
  refine cond_df (not_not_intro rfl) ?_
  refine callR (by kernel_rfl) (alike_ret hO hB) ?_
  rintro _ w ⟨rfl, hB⟩
  refine valP_ok (notb_ok _ _) ?_
  refine pick_df (by first | assumption | omega) ?_
  unfold m4_19
  refine cond_f rfl ?_
  unfold m4_11
  refine valP_ok (add_ok _ _ _ (by omega) (by omega) _) ?_
  exact hK D w hO hB
end
end
section
variable {w0 w : World} {F : List Nat} {L R : List Res} {b bq size b10 : Nat} {D Q : Dk}
section
variable {A Ag : Option Addr} {c cg i : Nat} {l : List Sd} {ls : List Gt} {kind n : Int} {name s : ByteArray} {Ak : Option Addr} {ck : Nat} {kp : List Int} {K1 : Value → World → Prop}
theorem saves_22 (hi : i ≤ 1000) (hn : -9223372036854775808 ≤ n ∧ n ≤ 9223372036854775807) (hls : ls.length ≤ 150) (hgs : ∀ g ∈ ls, GtS g) (hsz : s.size ≤ 1000) (hkl : kp.length ≤ 50) (hkr : Rd w0 1 Ak kp.length (kp.map (Value.int .i64))) (hO : Ok size D) (hB : Both w0 [] (SvL b10 kind n name s Ag cg ls Ak ck kp) b bq size D D w) (hK : SvK w0 b bq size i K1) (t : Bool) : m4_22 (SvsR w0) K1 (.slice A l.length c) (ptr b) (ptr bq) (.int .i64 (i : Int)) (ptr b10) (.int .i64 kind) (.bool t) w := by
  have hBg : BG w0 [] (SvL b10 kind n name s Ag cg ls Ak ck kp) Ag ls := Bes.of_row 1 rfl
  have hEk : Bes w0 [] (SvL b10 kind n name s Ag cg ls Ak ck kp) 1 Ak kp.length (kp.map (Value.int .i64)) := Bes.of_old0 hkr
  have stay : ∀ {D Q : Dk} w, Both w0 [] (SvL b10 kind n name s Ag cg ls Ak ck kp) b bq size D Q w → Hs w0 [] (SvL b10 kind n name s Ag cg ls Ak ck kp) w := fun w hB => by
    obtain ⟨L', hL', hS⟩ := hB.st
    exact Hs.of hS hL'
  have c1 : ∀ {D Q : Dk} {w} {j : Nat} {v : Value}, Both w0 [] (SvL b10 kind n name s Ag cg ls Ak ck kp) b bq size D Q w → ([.int .i64 kind, .int .i64 n, .string name, .string s, .slice Ag ls.length cg, .slice Ak kp.length ck] : List Value)[j]? = some v → w.cell? ⟨b10, j, none⟩ = some v := fun hB hv => hB.cell (.head _) hv
  unfold m4_22
  cases t with
  | true =>
    refine cond_t rfl ?_
    obtain ⟨Aq, cq, mb, X, hX, hS⟩ := hB
    refine drawn_ok hS ?_
    intro w hS
    have hB : Both w0 [] (SvL b10 kind n name s Ag cg ls Ak ck kp) b bq size D D w := ⟨Aq, cq, mb, X, hX, hS⟩
    clear hS hX
    refine ⟨Hs w0 [] (SvL b10 kind n name s Ag cg ls Ak ck kp), stay _ hB, ?_⟩
    refine valJ_ok (fa45_2 _) ?_
    refine valJ_load ld9 (Hs.cell 0 rfl rfl) ?_
    refine valJ_ok (fa45_4 _) ?_
    refine valJ_load ld22 (Hs.cell 0 rfl rfl) ?_
    refine valJ_ok (fa45_2 _) ?_
    refine valJ_load ld9 (Hs.cell 0 rfl rfl) ?_
    refine valJ_ok (fa45_4 _) ?_
    refine valJ_load ld22 (Hs.cell 0 rfl rfl) ?_
    refine callR (by kernel_rfl) (hB.real fun L' hL' hD => save_ret (by omega) hgs (hBg.mono hL') hO hD) ?_
    rintro _ w ⟨rfl, hB⟩
    refine ⟨stay _ hB, ?_⟩
    refine callR (by kernel_rfl) (hB.doc fun L' hL' hQ => qsave_ret (by omega) hgs (hBg.mono hL') hO hQ) ?_
    rintro _ w ⟨rfl, hB⟩
    refine ⟨stay _ hB, ?_⟩
    refine valJ_ok (ne3 _ _ _ _) ?_
    unfold m4_23
    refine cond_df (not_not_intro rfl) ?_
    exact saves_16 hi hls (Ok.save hO) hB hK
  | false =>
    refine cond_f rfl ?_
    refine valP_ok (eq3 _ _ _ _ _) ?_
    unfold m4_25
    refine cond_split (fun h => ?_) (fun h => ?_)
    · refine valP_ok (fa45_5 _ _) ?_
      refine valP_ok (ld23 (c1 hB (j := 5) rfl)) ?_
      refine callR (by kernel_rfl) ((hB.real (P := fun _ => True) fun L' hL' hD => (crash_ret (by omega) hO (hEk.mono hL') hD).mono fun v w' h => ⟨trivial, h⟩)) ?_
      rintro v w ⟨-, hB⟩
      unfold m4_26
      refine valP_ok (fa45_5 _ _) ?_
      refine valP_ok (ld23 (c1 hB (j := 5) rfl)) ?_
      refine callR (by kernel_rfl) ((hB.doc (P := fun _ => True) fun L' hL' hQ => (qcrash_ret (by omega) hO (hEk.mono hL') hQ).mono fun v w' h => ⟨trivial, h⟩)) ?_
      rintro v w ⟨-, hB⟩
      exact saves_16 hi hls (Ok.crash hO) hB hK
    · refine valP_ok (eq3 _ _ _ _ _) ?_
      unfold m4_27
      refine cond_split (fun h1 => ?_) (fun h1 => ?_)
      · refine valP_ok (fa45_1 _ _) ?_
        refine valP_ok (ld3 (c1 hB (j := 1) rfl)) ?_
        have hOf : Ok size ⟨D.L, D.room, max n (-1), D.off⟩ := Ok.setFuse hn.2 hO
        refine callR (by kernel_rfl) ((hB.real (D' := ⟨D.L, D.room, max n (-1), D.off⟩) (P := fun _ => True) fun L' hL' hD => by
          obtain ⟨mb, X, hX, hS⟩ := hD
          exact (fuse_ret hS).mono fun v w' h => ⟨trivial, mb, X, hX, h⟩)) ?_
        rintro v w ⟨-, hB⟩
        unfold m4_28
        refine valP_ok (fa45_1 _ _) ?_
        refine valP_ok (ld3 (c1 hB (j := 1) rfl)) ?_
        obtain ⟨mb, X, hX, Aq, cq, hS⟩ := hB.toQ
        refine builtin_ok (max_run _ _ _) ?_
        refine valP_ok (fa41_2 _ _) ?_
        refine store_at 0 st3 hS rfl (by simp) rfl ?_
        intro w hS
        simp only [List.set_cons_zero, List.set_cons_succ] at hS
        have hB : Both w0 [] (SvL b10 kind n name s Ag cg ls Ak ck kp) b bq size ⟨D.L, D.room, max n (-1), D.off⟩ ⟨D.L, D.room, max n (-1), D.off⟩ w := Both.ofQ (mb := mb) hX ⟨Aq, cq, hS⟩
        exact saves_16 hi hls hOf hB hK
      · refine valP_ok (eq3 _ _ _ _ _) ?_
        unfold m4_29
        refine cond_split (fun h2 => ?_) (fun h2 => ?_)
        · refine valP_ok (fa45_2 _ _) ?_
          refine valP_ok (ld9 (c1 hB (j := 2) rfl)) ?_
          refine valP_ok (fa45_3 _ _) ?_
          refine valP_ok (ld9 (c1 hB (j := 3) rfl)) ?_
          refine callR (by kernel_rfl) (hB.real fun L' hL' hD => append_ret (s := name) (t := s) hO (by omega) hD) ?_
          rintro _ w ⟨-, hB⟩
          unfold m4_30
          refine valP_ok (fa45_2 _ _) ?_
          refine valP_ok (ld9 (c1 hB (j := 2) rfl)) ?_
          refine valP_ok (fa45_3 _ _) ?_
          refine valP_ok (ld9 (c1 hB (j := 3) rfl)) ?_
          refine callR (by kernel_rfl) (hB.doc fun L' hL' hQ => qappend_ret (s := name) (t := s) hO (by omega) hQ) ?_
          rintro _ w ⟨-, hB⟩
          exact saves_16 hi hls (Ok.app hO) hB hK
        · exact saves_16 hi hls hO hB hK
theorem saves_15 (hi : i ≤ 1000) (hn : -9223372036854775808 ≤ n ∧ n ≤ 9223372036854775807) (hls : ls.length ≤ 150) (hgs : ∀ g ∈ ls, GtS g) (hsz : s.size ≤ 1000) (hkl : kp.length ≤ 50) (hkr : Rd w0 1 Ak kp.length (kp.map (Value.int .i64))) (hO : Ok size D) (hB : Both w0 [] (SvL b10 kind n name s Ag cg ls Ak ck kp) b bq size D D w) (hK : SvK w0 b bq size i K1) : m4_15 (SvsR w0) K1 (.slice A l.length c) (ptr b) (ptr bq) (.int .i64 (i : Int)) (ptr b10) w := by
  have next := fun t => saves_22 (A := A) (c := c) (l := l) hi hn hls hgs hsz hkl hkr hO hB hK t
  unfold m4_15
  refine valP_ok (fa45_0 _ _) ?_
  refine valP_ok (ld3 (hB.cell (.head _) (i := 0) rfl)) ?_
  unfold m4_21
  refine valP_ok (eq3 _ _ _ _ _) ?_
  unfold m4_31
  refine cond_split (fun h => ?_) (fun h => ?_)
  · rw [decide_eq_true h]
    exact next true
  · refine valP_ok (eq3 _ _ _ _ _) ?_
    unfold m4_32
    refine cond_split (fun h1 => ?_) (fun h1 => ?_)
    · rw [decide_eq_true h1]
      exact next true
    · refine valP_ok (eq3 _ _ _ _ _) ?_
      exact next _
theorem saves_12 {x : Sd} (hi : i ≤ 1000) (hx : SdOk w0 x) (hO : Ok size D) (hB : Both w0 [] [Res.cells b10 45 (encSd x)] b bq size D D w) (hK : SvK w0 b bq size i K1) : m4_12 (SvsR w0) K1 (.slice A l.length c) (ptr b) (ptr bq) (.int .i64 (i : Int)) (ptr b10) w := by
  obtain ⟨hn, ⟨hxc, hxr, hxg⟩, hkc, hkr⟩ := hx
  have hgs := cut_s hxg
  have hls := cut_len x.l
  obtain ⟨Aq, cq, mb, X, hX, hS⟩ := hB.open_ [Res.cells b10 45 (encSd x)]
  clear hB
  have hS : St w0 [] w (Res.cells b10 45 (encSd x) :: (dCell b (.map (some mb)) D.room D.fuse D.off :: mapD mb X :: (X.map fileR ++ (qCell bq Aq cq D size :: flRow Aq cq D.L :: [])))) := hS
  unfold m4_12
  refine valP_ok (fa45_4 _ _) ?_
  refine valP_ok (ld22 (hS.cell 0 rfl rfl)) ?_
  refine callR (by kernel_rfl) (some_ret hxc (Bes.of_old0 (Rd.takeS encG_len 150 hxr)) hS) ?_
  rintro _ w ⟨Ag, cg, rfl, hS⟩
  generalize (x.l.take 150).map cutG = ls at *
  refine valP_ok (fa45_4 _ _) ?_
  refine store_at 1 st22 hS rfl (by simp) rfl ?_
  intro w hS
  simp only [List.set_cons_zero, List.set_cons_succ] at hS
  have hS : St w0 [] w (grow Ag cg ls :: Res.cells b10 45 [.int .i64 x.kind, .int .i64 x.n, .string x.name, .string x.s, .slice Ag ls.length cg, .slice x.Ak x.keep.length x.ck] :: (dCell b (.map (some mb)) D.room D.fuse D.off :: mapD mb X :: (X.map fileR ++ (qCell bq Aq cq D size :: flRow Aq cq D.L :: [])))) := hS
  have fin : ∀ (s : ByteArray) (kp : List Int) w, s.size ≤ 1000 → kp.length ≤ 50 → Rd w0 1 x.Ak kp.length (kp.map (Value.int .i64)) → St w0 [] w (grow Ag cg ls :: Res.cells b10 45 [.int .i64 x.kind, .int .i64 x.n, .string x.name, .string s, .slice Ag ls.length cg, .slice x.Ak kp.length x.ck] :: (dCell b (.map (some mb)) D.room D.fuse D.off :: mapD mb X :: (X.map fileR ++ (qCell bq Aq cq D size :: flRow Aq cq D.L :: [])))) → m4_15 (SvsR w0) K1 (.slice A l.length c) (ptr b) (ptr bq) (.int .i64 (i : Int)) (ptr b10) w := fun s kp w h1 h2 h3 hS => by
    have hS := hS.pick 2 [1, 0] (by simp) (by decide)
    have hB : Both w0 [] (SvL b10 x.kind x.n x.name s Ag cg ls x.Ak x.ck kp) b bq size D D w := Both.close (L := []) (SvL b10 x.kind x.n x.name s Ag cg ls x.Ak x.ck kp) hX hS
    exact saves_15 hi hn hls hgs h1 h2 h3 hO hB hK
  have keep_ : ∀ (s : ByteArray) w, s.size ≤ 1000 → St w0 [] w (grow Ag cg ls :: Res.cells b10 45 [.int .i64 x.kind, .int .i64 x.n, .string x.name, .string s, .slice Ag ls.length cg, .slice x.Ak x.keep.length x.ck] :: (dCell b (.map (some mb)) D.room D.fuse D.off :: mapD mb X :: (X.map fileR ++ (qCell bq Aq cq D size :: flRow Aq cq D.L :: [])))) → m4_14 (SvsR w0) K1 (.slice A l.length c) (ptr b) (ptr bq) (.int .i64 (i : Int)) (ptr b10) w := fun s w h1 hS => by
    unfold m4_14
    refine valP_ok (fa45_5 _ _) ?_
    refine valP_ok (ld23 (hS.cell 1 rfl rfl)) ?_
    refine builtin_ok (len23 _) ?_
    refine valP_ok (gtr_ok _ _ _ _ _ _ _) ?_
    unfold m4_33
    refine cond_split (fun h => ?_) (fun h => ?_)
    · have hkr2 : Rd w0 1 x.Ak (x.keep.take 50).length ((x.keep.take 50).map (Value.int .i64)) := by
        have h1 := hkr
        rw [← iFlatE] at h1
        have h2 := Rd.takeS (enc := fun x : Int => [Value.int .i64 x]) (fun _ => rfl) 50 h1
        rw [iFlatE] at h2
        exact h2
      have hkl : (x.keep.take 50).length = 50 := by rw [List.length_take]; omega
      refine valP_ok (fa45_5 _ _) ?_
      refine valP_ok (ld23 (hS.cell 1 rfl rfl)) ?_
      refine valP_ok (sh23 (k := 50) (by omega) _) ?_
      refine valP_ok (fa45_5 _ _) ?_
      refine store_at 1 st23 hS rfl (by simp) rfl ?_
      intro w hS
      simp only [List.set_cons_zero, List.set_cons_succ] at hS
      exact fin s (x.keep.take 50) w h1 (by omega) hkr2 (by rw [hkl]; exact hS)
    · exact fin s x.keep w h1 (by omega) hkr hS
  unfold m4_13
  refine valP_ok (fa45_3 _ _) ?_
  refine valP_ok (ld9 (hS.cell 1 rfl rfl)) ?_
  refine builtin_ok (len9 _) ?_
  refine valP_ok (gtr_ok _ _ _ _ _ _ _) ?_
  unfold m4_34
  refine cond_split (fun h => ?_) (fun h => ?_)
  · refine valP_ok (fa45_3 _ _) ?_
    refine valP_ok (ld9 (hS.cell 1 rfl rfl)) ?_
    refine valP_ok (sto (s := x.s) (k := 1000) _ (by omega)) ?_
    refine valP_ok (fa45_3 _ _) ?_
    refine store_at 1 st9 hS rfl (by simp) rfl ?_
    intro w hS
    simp only [List.set_cons_zero, List.set_cons_succ] at hS
    exact keep_ _ w (by rw [ext_size _ _ _ (by omega)]; omega) hS
  · exact keep_ _ w (by omega) hS
end
theorem csaves_ret {n : Int} {l : List Sd} {A : Option Addr} {c : Nat} (hr : Rd w0 6 A l.length (l.flatMap encSd)) (hok : ∀ x ∈ l, SdOk w0 x) : Ret Tryz.prog 4 #[.int .i64 n, .slice A l.length c] w0 fun v w' => v = .bool true ∧ Below w0.heap.size w0 w' := by
  have hS := St.start w0
  refine Ret.mono (R := SvsR w0) ?_ fun v w' ⟨h, L', hS⟩ => ⟨h, hS.below⟩
  refine s4 _ _ ?_
  unfold m4 m4_0 m4_1
  refine callR (by kernel_rfl) (new_ret (n := n) hS) ?_
  intro v w hR
  by_cases hn : 1 ≤ n ∧ n ≤ 16384
  · rw [if_pos hn] at hR
    obtain ⟨b, rfl, hD⟩ := hR
    obtain ⟨k, rfl⟩ : ∃ k : Nat, n = (k : Int) := ⟨n.toNat, by omega⟩
    have hO : Ok k ⟨[], k, -1, false⟩ := Ok.new hn
    refine valP_ok (extract_ok _ 0 rfl _) ?_
    refine valP_ok (extract_ok _ 1 rfl _) ?_
    unfold m4_2
    refine callR (by kernel_rfl) (hD.with fun L' hL' hS => qnew_ret (n := (k : Int)) hS) ?_
    rintro _ w ⟨rfl, hD⟩
    rw [if_pos hn]
    obtain ⟨mb, X, hX, hS⟩ := hD
    refine valP_ok (extract_ok _ 0 rfl _) ?_
    refine valP_ok (extract_ok _ 1 rfl _) ?_
    refine new_ok (al41 _) hS ?_
    intro b7 w hS
    refine ss41 0 hS rfl rfl rfl rfl rfl ?_
    intro w hS
    simp only [List.set_cons_zero, List.set_cons_succ] at hS
    have hD := Dsk.push (D := ⟨[], k, -1, false⟩) hX hS
    clear hS hX
    obtain ⟨mb, X, hX, hS⟩ := hD
    have hD := Dsk.push (D := ⟨[], k, -1, false⟩) hX (hS.row_nil 67 3)
    clear hS hX
    have hB : Both w0 [] [] b b7 k ⟨[], k, -1, false⟩ ⟨[], k, -1, false⟩ w := ⟨none, 0, hD.perm (List.Perm.swap _ _ _)⟩
    clear hD
    unfold m4_3
    refine valP_ok (ne3 _ _ _ _ _) ?_
    unfold m4_38
    refine cond_df (not_not_intro rfl) ?_
    unfold m4_4
    refine valP_ok (eq25s _ _ _ _) ?_
    unfold m4_36
    refine cond_f rfl ?_
    unfold m4_5 m4_8
    refine loop_in (fun u w' => ∃ (i : Nat) (D : Dk), u = .int .i64 (i : Int) ∧ i ≤ l.length ∧ i ≤ 30 ∧ Ok k D ∧ Both w0 [] [] b b7 k D D w') (fun u _ => l.length - (intOf u).toNat) ⟨0, _, rfl, by omega, by omega, hO, hB⟩ ?_
    clear hB hO
    rintro u w ⟨i, D, rfl, hi, hi30, hO, hB⟩
    have exit : ∀ w, Both w0 [] [] b b7 k D D w → m4_6 (SvsR w0) w := fun w hB => by
      obtain ⟨L', -, hS⟩ := hB.st
      unfold m4_6
      refine callR (by kernel_rfl) (awake_ret hS) ?_
      rintro _ w ⟨rfl, hS⟩
      unfold m4_7
      exact ⟨rfl, L', hS⟩
    unfold m4_9
    refine builtin_ok (len38 _) ?_
    refine valP_ok (lss_ok _ _ _ _ _ _ _) ?_
    refine cond_split (fun h => ?_) (fun h => ?_)
    · have hil : i < l.length := by omega
      refine valP_ok (lss_ok _ _ _ _ _ _ _) ?_
      refine pick_dt (by first | assumption | omega) ?_
      unfold m4_35
      refine cond_split (fun h1 => ?_) (fun h1 => ?_)
      · obtain ⟨Aq, cq, mb, X, hX, hS⟩ := hB
        have hr := hr.old0 hS
        obtain ⟨gb, o, rfl⟩ := hr.some_ (by omega) (by omega)
        unfold m4_10
        refine valP_ok (ix38 hil _) ?_
        refine valP_ok (ld45 (hr.struct encSd_len hil (j := 0) (by omega) rfl) (hr.struct encSd_len hil (j := 1) (by omega) rfl) (hr.struct encSd_len hil (j := 2) (by omega) rfl) (hr.struct encSd_len hil (j := 3) (by omega) rfl) (hr.struct encSd_len hil (j := 4) (by omega) rfl) (hr.struct encSd_len hil (j := 5) (by omega) rfl)) ?_
        refine new_ok (al45 _) hS ?_
        intro b10 w hS
        refine ss45 0 hS rfl rfl rfl rfl rfl rfl rfl ?_
        intro w hS
        simp only [List.set_cons_zero, List.set_cons_succ] at hS
        have hB : Both w0 [] [Res.cells b10 45 (encSd l[i])] b b7 k D D w := Both.close (L := []) [Res.cells b10 45 (encSd l[i])] hX hS
        refine saves_12 (by omega) (hok _ (List.getElem_mem hil)) hO hB (fun D w hO hB => ⟨⟨i + 1, D, rfl, by omega, by omega, hO, hB⟩, by simp [intOf]; omega⟩)
      · exact exit w hB
    · refine pick_df (by first | assumption | omega) ?_
      unfold m4_35
      refine cond_f rfl ?_
      exact exit w hB
  · rw [if_neg hn] at hR
    obtain ⟨rfl, hS⟩ := hR
    refine valP_ok (extract_ok _ 0 rfl _) ?_
    refine valP_ok (extract_ok _ 1 rfl _) ?_
    unfold m4_2
    refine callR (by kernel_rfl) (qnew_ret (n := n) hS) ?_
    rintro _ w ⟨rfl, hS⟩
    rw [if_neg hn]
    refine valP_ok (extract_ok _ 0 rfl _) ?_
    refine valP_ok (extract_ok _ 1 rfl _) ?_
    refine new_ok (al41 _) hS ?_
    intro b7 w hS
    refine ss41 0 hS rfl rfl rfl rfl rfl ?_
    intro w hS
    simp only [List.set_cons_zero, List.set_cons_succ] at hS
    unfold m4_3
    refine valP_ok (ne3 _ _ _ _ _) ?_
    unfold m4_38
    refine cond_df (not_not_intro rfl) ?_
    unfold m4_4
    refine valP_ok (eq25n _ _ _) ?_
    unfold m4_36
    refine cond_t rfl ?_
    refine callR (by kernel_rfl) (awake_ret hS) ?_
    rintro _ w ⟨rfl, hS⟩
    unfold m4_37
    exact ⟨rfl, _, hS⟩
end
section
variable {H : Type} {en : TypeId × Value → H} {w : World}
theorem openSd {n : Nat} {cs : List Value} {y : DataW H × List MemPlace} (h : DataW.trod en Tryz.prog w 0 (fun _ => true) true n 45 cs = some y) : ∃ x : Sd, cs = encSd x ∧ (encSd x).length = 6 ∧ SdOk w x := by
  obtain ⟨hl, hf⟩ := open_structE Tryz.underlying45 h
  rw [show Tryz.prog.cellsOf 45 = 6 from by kernel_rfl] at hl
  obtain ⟨c0, c1, c2, c3, c4, c5, rfl⟩ : ∃ c0 c1 c2 c3 c4 c5, cs = [c0, c1, c2, c3, c4, c5] := by
    match cs, hl with
    | [c0, c1, c2, c3, c4, c5], _ => exact ⟨c0, c1, c2, c3, c4, c5, rfl⟩
  obtain ⟨_, _, h0⟩ := hf 0 3 0 1 rfl icells3
  obtain ⟨_, _, h1⟩ := hf 1 3 1 1 rfl icells3
  obtain ⟨_, _, h2⟩ := hf 2 9 2 1 rfl (by kernel_rfl)
  obtain ⟨_, _, h3⟩ := hf 3 9 3 1 rfl (by kernel_rfl)
  obtain ⟨_, _, h4⟩ := hf 4 22 4 1 rfl (by kernel_rfl)
  obtain ⟨_, _, h5⟩ := hf 5 23 5 1 rfl (by kernel_rfl)
  obtain ⟨a0, e0, _, w0⟩ := DataW.trod_int Tryz.underlying3 h0
  obtain ⟨a1, e1, _, w1⟩ := DataW.trod_int Tryz.underlying3 h1
  obtain ⟨a2, e2, _, w2⟩ := DataW.trod_string Tryz.underlying9 h2
  obtain ⟨a3, e3, _, w3⟩ := DataW.trod_string Tryz.underlying9 h3
  obtain ⟨A4, c4', l4, e4, hc4, hz4, hr4, ok4⟩ := openGts h4
  obtain ⟨A5, c5', l5, e5, hc5, hz5, hr5, hw5⟩ := open_intsE Tryz.underlying23 Tryz.underlying3 icells3 h5
  simp at e0 e1 e2 e3 e4 e5
  subst e0; subst e1; subst e2; subst e3; subst e4; subst e5
  exact ⟨⟨a0, a1, a2, a3, A4, c4', l4, A5, c5', l5⟩, rfl, rfl, iI w1, ⟨hc4, hr4, ok4⟩, hc5, hr5⟩
theorem openSds {n : Nat} {cs : List Value} {y : DataW H × List MemPlace} (h : DataW.trod en Tryz.prog w 0 (fun _ => true) true n 38 cs = some y) :
    ∃ (A : Option Addr) (c : Nat) (l : List Sd), cs = [.slice A l.length c] ∧ l.length ≤ c ∧ (A = none → c = 0) ∧ Rd w 6 A l.length (l.flatMap encSd) ∧ ∀ x ∈ l, SdOk w x :=
  open_rowsE encSd (SdOk w) (by omega) Tryz.underlying38 (by kernel_rfl) (fun n cs y h => openSd h) h
end
end Go.Proofs.YtcldjjmfpmkldaaGreatDoor.M
