/- Which are about the same; which are needless, by the document. -/
import Derived.Test.YtcdnkbplplghmaaV6
import Derived.Test.YtcdnkbplplghmaaMbase0
namespace Go.Proofs.Ytcdnkbplplghmaa.M
open Go.Proofs.Ytcdnkbplplghmaa.F Go.RowKit
set_option linter.unusedVariables false
set_option linter.unusedSimpArgs false
set_option maxRecDepth 100000
set_option maxHeartbeats 2000000
attribute [local irreducible] Res.cells Res.row Res.map Res.any World.cell? World.frozen? Instr.fieldAt Instr.loadAt Instr.storeAt Instr.indexAt Instr.lookup Instr.mapUpdate Instr.box Instr.build Instr.buildSlice Instr.extract Instr.alloc Instr.field Instr.index Instr.sliceAt Instr.makeSlice Instr.makeMap Instr.makeFunc binS Op.unary Sem.run
structure Gt where
  off : Int
  r : Rc
abbrev encG (g : Gt) : List Value := [.int .i64 g.off, .int .i64 g.r.key, .int .i64 g.r.time, .string g.r.text]
abbrev gv (g : Gt) : Value := .agg #[.int .i64 g.off, .int .i64 g.r.key, .int .i64 g.r.time, .string g.r.text]
abbrev BG (w0 : World) (F : List Nat) (L : List Res) (A : Option Addr) (l : List Gt) : Prop := Bes w0 F L 4 A l.length (l.flatMap encG)
abbrev grow (A : Option Addr) (c : Nat) (l : List Gt) : Res := Res.row 40 4 (.slice A l.length c) l.length (l.flatMap encG)
theorem encG_len : ∀ g, (encG g).length = 4 := fun _ => rfl
theorem encG_one : ∀ x, ∀ u ∈ encG x, u.oneCell' = true := fun x u hu => by
  simp only [List.mem_cons, List.not_mem_nil, or_false] at hu
  rcases hu with rfl | rfl | rfl | rfl <;> rfl
/-- what later ones of those ahead of an offset made needless. -/
def Needless (l : List Gt) (i : Nat) (upto : Int) : Prop := ∃ h : i < l.length, l[i].off < upto ∧ (l[i].r.text = putS 2 ∨ ∃ (k : Nat) (hk : k < l.length), i < k ∧ l[k].off < upto ∧ SameR l[i].r l[k].r)
section
variable {w0 w : World} {F : List Nat} {L : List Res} {l : List Gt} {A : Option Addr} {c : Nat}
theorem g_at {o b i : Nat} (hr : Rd w 4 (some ⟨b, o, none⟩) l.length (l.flatMap encG)) (hi : i < l.length) : w.cell? ⟨b, o + i * 4, none⟩ = some (.int .i64 l[i].off) ∧ w.cell? ⟨b, o + i * 4 + 1, none⟩ = some (.int .i64 l[i].r.key) ∧ w.cell? ⟨b, o + i * 4 + 2, none⟩ = some (.int .i64 l[i].r.time) ∧ w.cell? ⟨b, o + i * 4 + 3, none⟩ = some (.string l[i].r.text) :=
  ⟨hr.struct encG_len hi (j := 0) (by omega) rfl, hr.struct encG_len hi (j := 1) (by omega) rfl, hr.struct encG_len hi (j := 2) (by omega) rfl, hr.struct encG_len hi (j := 3) (by omega) rfl⟩
theorem same_ret {a b : Rc} (hS : St w0 F w L) : Ret Try.prog 49 #[rv a, rv b] w fun v w' => (∃ t, v = .bool t ∧ (t = true ↔ SameR a b)) ∧ St w0 F w' L := by
  refine s49 _ _ ?_
  unfold m49
  unfold m49_0
  refine new_ok (bx38 _ _ _ _) hS ?_
  intro b2 w hS
  refine new_ok (bx38 _ _ _ _) hS ?_
  intro b3 w hS
  have leaf5 : ∀ t : Bool, (t = true ↔ (kindS a.text = 0 ∨ kindS b.text = 0)) → ¬ kindS a.text < 0 → ¬ kindS b.text < 0 → ∀ w, St w0 F w (Res.cells b3 38 (encR b) :: Res.cells b2 38 (encR a) :: L) → m49_5 (fun v w' => (∃ t, v = .bool t ∧ (t = true ↔ SameR a b)) ∧ St w0 F w' L) (.pointer (some ⟨b2, 0, none⟩)) (.pointer (some ⟨b3, 0, none⟩)) (.bool t) w := fun t ht ha hb w hS => by
    unfold m49_5
    cases t with
    | true =>
      have h := ht.1 rfl
      refine cond_t rfl ?_
      refine drawn_ok hS ?_
      intro w hS
      refine held_Hs hS ?_
      first | refine valJ_at (fun w hw => ld38 (Hs.cell 0 rfl rfl w hw) (Hs.cell 0 rfl rfl w hw) (Hs.cell 0 rfl rfl w hw)) ?_ | refine valJ_at (fun w hw => ld38 (Hs.cell 1 rfl rfl w hw) (Hs.cell 1 rfl rfl w hw) (Hs.cell 1 rfl rfl w hw)) ?_ | refine valJ_at (fun w hw => ld38 (Hs.cell 2 rfl rfl w hw) (Hs.cell 2 rfl rfl w hw) (Hs.cell 2 rfl rfl w hw)) ?_ | refine valJ_at (fun w hw => ld38 (Hs.cell 3 rfl rfl w hw) (Hs.cell 3 rfl rfl w hw) (Hs.cell 3 rfl rfl w hw)) ?_ | refine valJ_at (fun w hw => ld38 (Hs.cell 4 rfl rfl w hw) (Hs.cell 4 rfl rfl w hw) (Hs.cell 4 rfl rfl w hw)) ?_ | refine valJ_at (fun w hw => ld38 (Hs.cell 5 rfl rfl w hw) (Hs.cell 5 rfl rfl w hw) (Hs.cell 5 rfl rfl w hw)) ?_ | refine valJ_at (fun w hw => ld38 (Hs.cell 6 rfl rfl w hw) (Hs.cell 6 rfl rfl w hw) (Hs.cell 6 rfl rfl w hw)) ?_ | refine valJ_at (fun w hw => ld38 (Hs.cell 7 rfl rfl w hw) (Hs.cell 7 rfl rfl w hw) (Hs.cell 7 rfl rfl w hw)) ?_
      first | refine valJ_at (fun w hw => ld38 (Hs.cell 0 rfl rfl w hw) (Hs.cell 0 rfl rfl w hw) (Hs.cell 0 rfl rfl w hw)) ?_ | refine valJ_at (fun w hw => ld38 (Hs.cell 1 rfl rfl w hw) (Hs.cell 1 rfl rfl w hw) (Hs.cell 1 rfl rfl w hw)) ?_ | refine valJ_at (fun w hw => ld38 (Hs.cell 2 rfl rfl w hw) (Hs.cell 2 rfl rfl w hw) (Hs.cell 2 rfl rfl w hw)) ?_ | refine valJ_at (fun w hw => ld38 (Hs.cell 3 rfl rfl w hw) (Hs.cell 3 rfl rfl w hw) (Hs.cell 3 rfl rfl w hw)) ?_ | refine valJ_at (fun w hw => ld38 (Hs.cell 4 rfl rfl w hw) (Hs.cell 4 rfl rfl w hw) (Hs.cell 4 rfl rfl w hw)) ?_ | refine valJ_at (fun w hw => ld38 (Hs.cell 5 rfl rfl w hw) (Hs.cell 5 rfl rfl w hw) (Hs.cell 5 rfl rfl w hw)) ?_ | refine valJ_at (fun w hw => ld38 (Hs.cell 6 rfl rfl w hw) (Hs.cell 6 rfl rfl w hw) (Hs.cell 6 rfl rfl w hw)) ?_ | refine valJ_at (fun w hw => ld38 (Hs.cell 7 rfl rfl w hw) (Hs.cell 7 rfl rfl w hw) (Hs.cell 7 rfl rfl w hw)) ?_
      refine callR (by kernel_rfl) (sort_ret hS) ?_
      rintro _ w ⟨rfl, hS⟩
      refine stay_Hs hS (by first | exact fun _ h => h | exact fun _ h => .tail _ h | exact fun _ h => .tail _ (.tail _ h) | simp) ?_
      refine callR (by kernel_rfl) (sort_ret hS) ?_
      rintro _ w ⟨rfl, hS⟩
      refine stay_Hs hS (by first | exact fun _ h => h | exact fun _ h => .tail _ h | exact fun _ h => .tail _ (.tail _ h) | simp) ?_
      refine valJ_ok (eq3 _ _ _ _) ?_
      unfold m49_6
      refine ⟨⟨_, rfl, ?_⟩, hS.tail.tail⟩
      unfold SameR
      rw [if_pos h, decide_eq_true_eq]
      exact ⟨fun h => ⟨by omega, by omega, h⟩, fun h => h.2.2⟩
    | false =>
      have h : ¬ (kindS a.text = 0 ∨ kindS b.text = 0) := fun h => by have := ht.2 h; cases this
      have e : SameR a b ↔ a.key = b.key ∧ a.time = b.time := by
        unfold SameR
        rw [if_neg h]
        exact ⟨fun h => h.2.2, fun h => ⟨by omega, by omega, h⟩⟩
      refine cond_f rfl ?_
      unfold m49_3
      first | refine valP_ok (fa38_0 _ _) ?_ | refine valP_ok (fao38_0 _ _ _) ?_
      first | refine valP_ok (ld3 (hS.cell 0 rfl rfl)) ?_ | refine valP_ok (ld3 (hS.cell 1 rfl rfl)) ?_ | refine valP_ok (ld3 (hS.cell 2 rfl rfl)) ?_ | refine valP_ok (ld3 (hS.cell 3 rfl rfl)) ?_ | refine valP_ok (ld3 (hS.cell 4 rfl rfl)) ?_ | refine valP_ok (ld3 (hS.cell 5 rfl rfl)) ?_ | refine valP_ok (ld3 (hS.cell 6 rfl rfl)) ?_ | refine valP_ok (ld3 (hS.cell 7 rfl rfl)) ?_ | refine valP_ok (ld3 (by assumption)) ?_
      first | refine valP_ok (fa38_0 _ _) ?_ | refine valP_ok (fao38_0 _ _ _) ?_
      first | refine valP_ok (ld3 (hS.cell 0 rfl rfl)) ?_ | refine valP_ok (ld3 (hS.cell 1 rfl rfl)) ?_ | refine valP_ok (ld3 (hS.cell 2 rfl rfl)) ?_ | refine valP_ok (ld3 (hS.cell 3 rfl rfl)) ?_ | refine valP_ok (ld3 (hS.cell 4 rfl rfl)) ?_ | refine valP_ok (ld3 (hS.cell 5 rfl rfl)) ?_ | refine valP_ok (ld3 (hS.cell 6 rfl rfl)) ?_ | refine valP_ok (ld3 (hS.cell 7 rfl rfl)) ?_ | refine valP_ok (ld3 (by assumption)) ?_
      refine valP_ok (eq3 _ _ _ _ _) ?_
      refine cond_split (fun h1 => ?_) (fun h1 => ?_)
      · first | refine valP_ok (fa38_1 _ _) ?_ | refine valP_ok (fao38_1 _ _ _) ?_
        first | refine valP_ok (ld3 (hS.cell 0 rfl rfl)) ?_ | refine valP_ok (ld3 (hS.cell 1 rfl rfl)) ?_ | refine valP_ok (ld3 (hS.cell 2 rfl rfl)) ?_ | refine valP_ok (ld3 (hS.cell 3 rfl rfl)) ?_ | refine valP_ok (ld3 (hS.cell 4 rfl rfl)) ?_ | refine valP_ok (ld3 (hS.cell 5 rfl rfl)) ?_ | refine valP_ok (ld3 (hS.cell 6 rfl rfl)) ?_ | refine valP_ok (ld3 (hS.cell 7 rfl rfl)) ?_ | refine valP_ok (ld3 (by assumption)) ?_
        first | refine valP_ok (fa38_1 _ _) ?_ | refine valP_ok (fao38_1 _ _ _) ?_
        first | refine valP_ok (ld3 (hS.cell 0 rfl rfl)) ?_ | refine valP_ok (ld3 (hS.cell 1 rfl rfl)) ?_ | refine valP_ok (ld3 (hS.cell 2 rfl rfl)) ?_ | refine valP_ok (ld3 (hS.cell 3 rfl rfl)) ?_ | refine valP_ok (ld3 (hS.cell 4 rfl rfl)) ?_ | refine valP_ok (ld3 (hS.cell 5 rfl rfl)) ?_ | refine valP_ok (ld3 (hS.cell 6 rfl rfl)) ?_ | refine valP_ok (ld3 (hS.cell 7 rfl rfl)) ?_ | refine valP_ok (ld3 (by assumption)) ?_
        refine valP_ok (eq3 _ _ _ _ _) ?_
        first | refine pick_dt (by first | assumption | omega) ?_ | refine pick_df (by first | assumption | omega) ?_ | refine pick_t (by first | rfl | assumption) ?_ | refine pick_f (by first | rfl | assumption) ?_ | refine pick_dt rfl ?_ | refine pick_df (not_not_intro rfl) ?_
        unfold m49_4
        exact ⟨⟨_, rfl, by rw [e, decide_eq_true_eq]; exact ⟨fun h => ⟨h1, h⟩, fun h => h.2⟩⟩, hS.tail.tail⟩
      · first | refine pick_dt (by first | assumption | omega) ?_ | refine pick_df (by first | assumption | omega) ?_ | refine pick_t (by first | rfl | assumption) ?_ | refine pick_f (by first | rfl | assumption) ?_ | refine pick_dt rfl ?_ | refine pick_df (not_not_intro rfl) ?_
        unfold m49_4
        exact ⟨⟨_, rfl, by rw [e]; exact ⟨fun h => (by cases h), fun h => absurd h.1 h1⟩⟩, hS.tail.tail⟩
  have leaf7 : ∀ t : Bool, (t = true ↔ (kindS a.text < 0 ∨ kindS b.text < 0)) → ∀ w, St w0 F w (Res.cells b3 38 (encR b) :: Res.cells b2 38 (encR a) :: L) → m49_7 (fun v w' => (∃ t, v = .bool t ∧ (t = true ↔ SameR a b)) ∧ St w0 F w' L) (.pointer (some ⟨b2, 0, none⟩)) (.pointer (some ⟨b3, 0, none⟩)) (.bool t) w := fun t ht w hS => by
    unfold m49_7
    cases t with
    | true =>
      have h := ht.1 rfl
      refine cond_t rfl ?_
      unfold m49_8
      exact ⟨⟨_, rfl, ⟨fun h => (by cases h), fun h1 => by have := h1.1; have := h1.2.1; omega⟩⟩, hS.tail.tail⟩
    | false =>
      have h : ¬ (kindS a.text < 0 ∨ kindS b.text < 0) := fun h => by have := ht.2 h; cases this
      refine cond_f rfl ?_
      unfold m49_2
      first | refine ls38 0 hS rfl ?_ | refine ls38 1 hS rfl ?_ | refine ls38 2 hS rfl ?_ | refine ls38 3 hS rfl ?_ | refine ls38 4 hS rfl ?_ | refine ls38 5 hS rfl ?_ | refine ls38 6 hS rfl ?_ | refine ls38 7 hS rfl ?_ | refine valP_ok (ld38 (by assumption) (by assumption) (by assumption)) ?_
      refine callR (by kernel_rfl) (sort_ret hS) ?_
      rintro _ w ⟨rfl, hS⟩
      refine valP_ok (eq3 _ _ _ _ _) ?_
      refine cond_split (fun h1 => ?_) (fun h1 => ?_)
      · first | refine pick_dt (by first | assumption | omega) ?_ | refine pick_df (by first | assumption | omega) ?_ | refine pick_t (by first | rfl | assumption) ?_ | refine pick_f (by first | rfl | assumption) ?_ | refine pick_dt rfl ?_ | refine pick_df (not_not_intro rfl) ?_
        exact leaf5 _ ⟨fun _ => .inl h1, fun _ => rfl⟩ (by omega) (by omega) _ hS
      · first | refine ls38 0 hS rfl ?_ | refine ls38 1 hS rfl ?_ | refine ls38 2 hS rfl ?_ | refine ls38 3 hS rfl ?_ | refine ls38 4 hS rfl ?_ | refine ls38 5 hS rfl ?_ | refine ls38 6 hS rfl ?_ | refine ls38 7 hS rfl ?_ | refine valP_ok (ld38 (by assumption) (by assumption) (by assumption)) ?_
        refine callR (by kernel_rfl) (sort_ret hS) ?_
        rintro _ w ⟨rfl, hS⟩
        refine valP_ok (eq3 _ _ _ _ _) ?_
        first | refine pick_dt (by first | assumption | omega) ?_ | refine pick_df (by first | assumption | omega) ?_ | refine pick_t (by first | rfl | assumption) ?_ | refine pick_f (by first | rfl | assumption) ?_ | refine pick_dt rfl ?_ | refine pick_df (not_not_intro rfl) ?_
        exact leaf5 _ (by simp only [decide_eq_true_eq]; omega) (by omega) (by omega) _ hS
  unfold m49_1
  first | refine ls38 0 hS rfl ?_ | refine ls38 1 hS rfl ?_ | refine ls38 2 hS rfl ?_ | refine ls38 3 hS rfl ?_ | refine ls38 4 hS rfl ?_ | refine ls38 5 hS rfl ?_ | refine ls38 6 hS rfl ?_ | refine ls38 7 hS rfl ?_ | refine valP_ok (ld38 (by assumption) (by assumption) (by assumption)) ?_
  refine callR (by kernel_rfl) (sort_ret hS) ?_
  rintro _ w ⟨rfl, hS⟩
  refine valP_ok (lss_ok _ _ _ _ _ _ _) ?_
  refine cond_split (fun h1 => ?_) (fun h1 => ?_)
  · first | refine pick_dt (by first | assumption | omega) ?_ | refine pick_df (by first | assumption | omega) ?_ | refine pick_t (by first | rfl | assumption) ?_ | refine pick_f (by first | rfl | assumption) ?_ | refine pick_dt rfl ?_ | refine pick_df (not_not_intro rfl) ?_
    exact leaf7 _ ⟨fun _ => .inl h1, fun _ => rfl⟩ _ hS
  · first | refine ls38 0 hS rfl ?_ | refine ls38 1 hS rfl ?_ | refine ls38 2 hS rfl ?_ | refine ls38 3 hS rfl ?_ | refine ls38 4 hS rfl ?_ | refine ls38 5 hS rfl ?_ | refine ls38 6 hS rfl ?_ | refine ls38 7 hS rfl ?_ | refine valP_ok (ld38 (by assumption) (by assumption) (by assumption)) ?_
    refine callR (by kernel_rfl) (sort_ret hS) ?_
    rintro _ w ⟨rfl, hS⟩
    refine valP_ok (lss_ok _ _ _ _ _ _ _) ?_
    first | refine pick_dt (by first | assumption | omega) ?_ | refine pick_df (by first | assumption | omega) ?_ | refine pick_t (by first | rfl | assumption) ?_ | refine pick_f (by first | rfl | assumption) ?_ | refine pick_dt rfl ?_ | refine pick_df (not_not_intro rfl) ?_
    exact leaf7 _ (by simp only [decide_eq_true_eq]; omega) _ hS
end

end Go.Proofs.Ytcdnkbplplghmaa.M
