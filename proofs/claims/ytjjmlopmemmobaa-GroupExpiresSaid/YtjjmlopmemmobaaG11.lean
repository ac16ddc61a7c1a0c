/- What is done of a deed to a group. -/
import Derived.Test.YtjjmlopmemmobaaG10
namespace Go.Proofs.Ytjjmlopmemmobaa.M
open Go.Proofs.Ytjjmlopmemmobaa.F Go.RowKit
set_option linter.unusedVariables false
set_option linter.unusedSimpArgs false
set_option maxRecDepth 100000
set_option maxHeartbeats 2000000
attribute [local irreducible] Res.cells Res.row Res.map Res.any World.cell? World.frozen? Instr.fieldAt Instr.loadAt Instr.storeAt Instr.indexAt Instr.lookup Instr.mapUpdate Instr.box Instr.build Instr.buildSlice Instr.extract Instr.alloc Instr.field Instr.index Instr.sliceAt Instr.makeSlice Instr.makeMap Instr.makeFunc binS Op.unary Sem.run
open Go.Proofs.Ytjjmlopmemmobaa.L Go.Shelf
def doG (s : GS) (x : Gd) : GS :=
  if x.k = 0 ∨ x.k = 1 then joinG s x.a else if x.k = 2 then syncG s x.a else if x.k = 3 ∨ x.k = 4 then beatG s x.a x.b else if x.k = 5 then leaveG s x.a else if x.k = 6 ∨ x.k = 7 ∨ x.k = 8 then tickG s else s
theorem doG_ok {T : Nat} {s : GS} (hT : T < 900) (h : GOk T s) (x : Gd) : GOk (T + 1) (doG s x) := by
  unfold doG
  split
  · exact joinG_ok hT h _
  · split
    · exact (syncG_ok h _).le (by omega)
    · split
      · exact (beatG_ok h _ _).le (by omega)
      · split
        · exact (leaveG_ok hT h _).le (by omega)
        · split
          · exact tickG_ok hT h
          · exact h.le (by omega)
theorem gdone_ret {w0 w : World} {F : List Nat} {L : List Res} {b b3 T : Nat} {s : GS} {X : GA} {x : Gd} {t : Value} (hT : T < 890) (hs : GOk T s) (hS : St w0 F w (grpL 103 b s X ++ Res.cells b3 65 (encG x) :: L)) :
    m38_2 (fun v w' => ∃ X', St w0 F w' (grpL 103 b (doG s x) X' ++ L)) (.pointer (some ⟨b, 0, none⟩)) (.pointer (some ⟨b3, 0, none⟩)) w := by
  have back : ∀ {s' : GS} {X' : GA} {w : World}, St w0 F w (grpL 103 b s' X' ++ Res.cells b3 65 (encG x) :: L) → St w0 F w (grpL 103 b s' X' ++ L) := fun hS => hS.pick 4 [0, 1, 2] (by simp) (by decide)
  have c0 := hS.cell (b := b3) (i := 0) 3 rfl rfl
  have c1 := hS.cell (b := b3) (i := 1) 3 rfl rfl
  have c2 := hS.cell (b := b3) (i := 2) 3 rfl rfl
  unfold m38_2
  refine valP_ok (fa65_0 _ _) ?_
  refine valP_ok (ld3 c0) ?_
  unfold m38_3
  refine valP_ok (eq3 _ _ _ _ _) ?_
  have join : (x.k = 0 ∨ x.k = 1) → ∀ t, t = true → m38_4 (fun v w' => ∃ X', St w0 F w' (grpL 103 b (doG s x) X' ++ L)) (.pointer (some ⟨b, 0, none⟩)) (.pointer (some ⟨b3, 0, none⟩)) (.int .i64 x.k) (.bool t) w := fun hk t ht => by
    unfold m38_4
    refine cond_t ht ?_
    refine valP_ok (fa65_1 _ _) ?_
    refine valP_ok (ld3 c1) ?_
    refine callR (by kernel_rfl) (gjoin_ret (by omega) hs hS) ?_
    rintro v w ⟨-, X', hS⟩
    unfold doG
    rw [if_pos hk]
    exact ⟨X', back hS⟩
  unfold m38_12
  refine cond_split (fun h0 => ?_) (fun h0 => ?_)
  · exact join (.inl h0) _ (by simp [h0])
  refine valP_ok (eq3 _ _ _ _ _) ?_
  by_cases h1 : x.k = 1
  · exact join (.inr h1) _ (by simp [h1])
  unfold m38_4
  refine cond_df h1 ?_
  refine valP_ok (eq3 _ _ _ _ _) ?_
  unfold m38_5
  refine cond_split (fun h2 => ?_) (fun h2 => ?_)
  · refine valP_ok (fa65_1 _ _) ?_
    refine valP_ok (ld3 c1) ?_
    refine callR (by kernel_rfl) (gsync_ret (by omega) hs hS) ?_
    rintro v w ⟨A, c, -, hS⟩
    unfold doG
    rw [if_neg (by omega), if_pos h2]
    exact ⟨X, back hS.tail⟩
  refine valP_ok (eq3 _ _ _ _ _) ?_
  have beat : (x.k = 3 ∨ x.k = 4) → ∀ t, t = true → m38_6 (fun v w' => ∃ X', St w0 F w' (grpL 103 b (doG s x) X' ++ L)) (.pointer (some ⟨b, 0, none⟩)) (.pointer (some ⟨b3, 0, none⟩)) (.int .i64 x.k) (.bool t) w := fun hk t ht => by
    unfold m38_6
    refine cond_t ht ?_
    refine valP_ok (fa65_1 _ _) ?_
    refine valP_ok (ld3 c1) ?_
    refine valP_ok (fa65_2 _ _) ?_
    refine valP_ok (ld3 c2) ?_
    refine callR (by kernel_rfl) (gbeat_ret (by omega) hs hS) ?_
    rintro v w ⟨-, hS⟩
    unfold doG
    rw [if_neg (by omega), if_neg (by omega), if_pos hk]
    exact ⟨X, back hS⟩
  unfold m38_11
  refine cond_split (fun h3 => ?_) (fun h3 => ?_)
  · exact beat (.inl h3) _ (by simp [h3])
  refine valP_ok (eq3 _ _ _ _ _) ?_
  by_cases h4 : x.k = 4
  · exact beat (.inr h4) _ (by simp [h4])
  unfold m38_6
  refine cond_df h4 ?_
  refine valP_ok (eq3 _ _ _ _ _) ?_
  unfold m38_7
  refine cond_split (fun h5 => ?_) (fun h5 => ?_)
  · refine valP_ok (fa65_1 _ _) ?_
    refine valP_ok (ld3 c1) ?_
    refine callR (by kernel_rfl) (gleave_ret (by omega) hs hS) ?_
    rintro v w ⟨-, X', hS⟩
    unfold doG
    rw [if_neg (by omega), if_neg (by omega), if_neg (by omega), if_pos h5]
    exact ⟨X', back hS⟩
  refine valP_ok (eq3 _ _ _ _ _) ?_
  have tick : (x.k = 6 ∨ x.k = 7 ∨ x.k = 8) → ∀ t, t = true → m38_8 (fun v w' => ∃ X', St w0 F w' (grpL 103 b (doG s x) X' ++ L)) (.pointer (some ⟨b, 0, none⟩)) (.bool t) w := fun hk t ht => by
    unfold m38_8
    refine cond_t ht ?_
    refine callR (by kernel_rfl) (gtick_ret (by omega) hs hS) ?_
    rintro v w ⟨-, X', hS⟩
    unfold doG
    rw [if_neg (by omega), if_neg (by omega), if_neg (by omega), if_neg (by omega), if_pos hk]
    exact ⟨X', back hS⟩
  unfold m38_9
  refine cond_split (fun h6 => ?_) (fun h6 => ?_)
  · exact tick (.inl h6) _ (by simp [h6])
  refine valP_ok (eq3 _ _ _ _ _) ?_
  unfold m38_10
  refine cond_split (fun h7 => ?_) (fun h7 => ?_)
  · exact tick (.inr (.inl h7)) _ (by simp [h7])
  refine valP_ok (eq3 _ _ _ _ _) ?_
  by_cases h8 : x.k = 8
  · exact tick (.inr (.inr h8)) _ (by simp [h8])
  unfold m38_8
  refine cond_df h8 ?_
  unfold doG
  rw [if_neg (by omega), if_neg (by omega), if_neg (by omega), if_neg (by omega), if_neg (by omega)]
  exact ⟨X, back hS⟩
/-- a deed, aimed by the group's own members. -/
def stepG (s : GS) (x : Gd) : GS := doG s (aimG x s.L s.g)
theorem gdoes_ret {w0 w : World} {F : List Nat} {L : List Res} {b T : Nat} {s : GS} {X : GA} {x : Gd} (hT : T < 890) (hx : DG x) (hs : GOk T s) (hS : St w0 F w (grpL 103 b s X ++ L)) :
    Ret Try.prog 38 #[.pointer (some ⟨b, 0, none⟩), valG x] w fun v w' => ∃ X', St w0 F w' (grpL 103 b (stepG s x) X' ++ L) := by
  have hlen := hs.len
  refine s38 _ _ ?_
  unfold m38
  unfold m38_0
  refine new_ok (bx65 _ _ _ _ _ _) hS ?_
  intro b3 w hS
  have hS : St w0 F w (grpL 103 b s X ++ Res.cells b3 65 (encG x) :: L) := hS.pick 4 [1, 2, 3, 0] (by simp) (by decide)
  have fin : ∀ w A c, St w0 F w (mrow (.slice A s.L.length c) s.L :: (grpL 103 b s X ++ Res.cells b3 65 (encG x) :: L)) → ∀ K : Value → World → Prop, (∀ w, St w0 F w (mrow (.slice A s.L.length c) s.L :: (grpL 103 b s X ++ Res.cells b3 65 (encG x) :: L)) → K (valG (aimG x s.L s.g)) w) → callP Try.prog (fnV 52) #[valG x, .slice A s.L.length c, .int .i64 s.g] w K := fun w A c hS K hK => by
    refine callR (by kernel_rfl) (gaimed_ret hx (by omega) hS (Bes.of_row 0 rfl)) ?_
    rintro v w ⟨rfl, hS⟩
    exact hK w hS
  have last : ∀ w A c, St w0 F w (mrow (.slice A s.L.length c) s.L :: (grpL 103 b s X ++ Res.cells b3 65 (encG x) :: L)) → unitP Try.prog (Instr.storeAt 65 (.pointer (some ⟨b3, 0, none⟩)) (valG (aimG x s.L s.g))) w (fun _ w => m38_2 (fun v w' => ∃ X', St w0 F w' (grpL 103 b (stepG s x) X' ++ L)) (.pointer (some ⟨b, 0, none⟩)) (.pointer (some ⟨b3, 0, none⟩)) w) := fun w A c hS => by
    refine ss65 4 hS rfl rfl rfl rfl rfl rfl ?_
    intro w hS
    simp only [List.cons_append, List.nil_append, List.set_cons_zero, List.set_cons_succ] at hS
    exact gdone_ret (x := aimG x s.L s.g) (t := undef) hT hs hS.tail
  have c0 : ∀ w L', St w0 F w (L' ++ (grpL 103 b s X ++ Res.cells b3 65 (encG x) :: L)) → ∀ K : Value → World → Prop, K (valG x) w → valP Try.prog (Instr.loadAt 65 (.pointer (some ⟨b3, 0, none⟩))) w K := fun w L' hS K hK => by
    refine ls65 (L'.length + 3) hS (by rw [List.getElem?_append_right (by omega), show L'.length + 3 - L'.length = 3 by omega]; rfl) ?_
    exact hK
  unfold m38_1
  refine drawn_ok hS ?_
  intro w hS
  refine ⟨?_, ?_⟩
  · refine c0 w [] hS _ ?_
    refine callR (by kernel_rfl) (gmembers_ret (by omega) hS) ?_
    rintro v w ⟨A, c, rfl, hS⟩
    refine callR (by kernel_rfl) (ggen_ret hS.tail) ?_
    rintro v w ⟨rfl, rfl⟩
    refine fin _ _ _ hS _ fun w hS => ?_
    exact last _ _ _ hS
  · refine callR (by kernel_rfl) (gmembers_ret (by omega) hS) ?_
    rintro v w ⟨A, c, rfl, hS⟩
    refine ⟨?_, ?_⟩
    · refine c0 w [_] hS _ ?_
      refine callR (by kernel_rfl) (ggen_ret hS.tail) ?_
      rintro v w ⟨rfl, rfl⟩
      refine fin _ _ _ hS _ fun w hS => ?_
      exact last _ _ _ hS
    · refine callR (by kernel_rfl) (ggen_ret hS.tail) ?_
      rintro v w ⟨rfl, rfl⟩
      refine c0 w [_] hS _ ?_
      refine fin _ _ _ hS _ fun w hS => ?_
      exact last _ _ _ hS

end Go.Proofs.Ytjjmlopmemmobaa.M
