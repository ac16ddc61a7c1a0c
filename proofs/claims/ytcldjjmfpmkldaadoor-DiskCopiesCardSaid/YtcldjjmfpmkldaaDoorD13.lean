/- Deeds: few of them; done. -/
import Derived.Test.YtcldjjmfpmkldaaDoorD12
import Derived.Test.YtcldjjmfpmkldaaDoorFwL
import Derived.Test.YtcldjjmfpmkldaaDoorFwW
import Derived.Test.YtcldjjmfpmkldaaDoorFwB
import Derived.Test.YtcldjjmfpmkldaaDoorFwM
import Derived.Test.YtcldjjmfpmkldaaDoorMtrim0
import Derived.Test.YtcldjjmfpmkldaaDoorMdisk0
import Derived.Test.YtcldjjmfpmkldaaDoorMmore0
import Derived.Test.YtcldjjmfpmkldaaDoorMlaw0
namespace Go.Proofs.YtcldjjmfpmkldaaDoor.M
open Go.Proofs.YtcldjjmfpmkldaaDoor.F Go.RowKit
set_option linter.unusedVariables false
set_option linter.unusedSimpArgs false
set_option maxRecDepth 100000
set_option maxHeartbeats 2000000
attribute [local irreducible] Res.cells Res.row Res.map Res.any World.cell? World.frozen? Instr.fieldAt Instr.loadAt Instr.storeAt Instr.indexAt Instr.lookup Instr.mapUpdate Instr.box Instr.build Instr.buildSlice Instr.extract Instr.alloc Instr.field Instr.index Instr.sliceAt Instr.makeSlice Instr.makeMap Instr.makeFunc binS Op.unary Sem.run
structure De where
  kind : Int
  n : Int
  a : ByteArray
  b : ByteArray
  s : ByteArray
  A : Option Addr
  c : Nat
  keep : List Int
abbrev encD (x : De) : List Value := [.int .i64 x.kind, .int .i64 x.n, .string x.a, .string x.b, .string x.s, .slice x.A x.keep.length x.c]
abbrev dv (x : De) : Value := .agg #[.int .i64 x.kind, .int .i64 x.n, .string x.a, .string x.b, .string x.s, .slice x.A x.keep.length x.c]
theorem encD_len : ∀ g, (encD g).length = 6 := fun _ => rfl
theorem encD_one : ∀ x, ∀ u ∈ encD x, u.oneCell' = true := fun x u hu => by
  simp only [List.mem_cons, List.not_mem_nil, or_false] at hu
  rcases hu with rfl | rfl | rfl | rfl | rfl | rfl <;> rfl
abbrev deRow (A : Option Addr) (c : Nat) (l : List De) : Res := Res.row 54 6 (.slice A l.length c) l.length (l.flatMap encD)
def DeOk (w0 : World) (x : De) : Prop := (-9223372036854775808 ≤ x.n ∧ x.n ≤ 9223372036854775807) ∧ x.keep.length ≤ x.c ∧ Rd w0 1 x.A x.keep.length (x.keep.map (Value.int .i64))
def DeS (w0 : World) (x : De) : Prop := DeOk w0 x ∧ x.s.size ≤ 3000 ∧ x.keep.length ≤ 100
def cutDe (x : De) : De := ⟨x.kind, x.n, x.a, x.b, if 3000 < x.s.size then x.s.extract 0 3000 else x.s, x.A, x.c, if 100 < x.keep.length then x.keep.take 100 else x.keep⟩
def fewL (l : List De) : List De := (l.take 80).map cutDe
theorem fewL_len (l : List De) : (fewL l).length ≤ 80 := by unfold fewL; rw [List.length_map, List.length_take]; omega
theorem iFlat (l : List Int) : l.flatMap (fun x => [Value.int .i64 x]) = l.map (Value.int .i64) := by
  induction l with
  | nil => rfl
  | cons x l ih => rw [List.flatMap_cons, ih]; rfl
theorem cut_ok {w0 : World} {x : De} (h : DeOk w0 x) : DeS w0 (cutDe x) := by
  refine ⟨⟨h.1, ?_, ?_⟩, ?_, ?_⟩
  · show (if 100 < x.keep.length then x.keep.take 100 else x.keep).length ≤ x.c
    have := h.2.1
    split
    · rw [List.length_take]; omega
    · exact this
  · show Rd w0 1 x.A (if 100 < x.keep.length then x.keep.take 100 else x.keep).length ((if 100 < x.keep.length then x.keep.take 100 else x.keep).map (Value.int .i64))
    split
    · have h1 := h.2.2
      rw [← iFlat] at h1
      have h2 := Rd.takeS (enc := fun x : Int => [Value.int .i64 x]) (fun _ => rfl) 100 h1
      rw [iFlat] at h2
      exact h2
    · exact h.2.2
  · show (if 3000 < x.s.size then x.s.extract 0 3000 else x.s).size ≤ 3000
    split
    · rw [ext_size _ _ _ (by omega)]; omega
    · omega
  · show (if 100 < x.keep.length then x.keep.take 100 else x.keep).length ≤ 100
    split
    · rw [List.length_take]; omega
    · omega
theorem few_ok {w0 : World} {l : List De} (h : ∀ x ∈ l, DeOk w0 x) : ∀ x ∈ fewL l, DeS w0 x := fun x hx => by
  obtain ⟨y, hy, rfl⟩ := List.mem_map.1 hx
  exact cut_ok (h y (List.mem_of_mem_take hy))
/-- a deed. -/
def stepD (D : Dk) (x : De) : Dk :=
  if x.kind = 0 ∨ x.kind = 1 ∨ x.kind = 2 then (appD D x.a x.s).1
  else if x.kind = 3 ∨ x.kind = 4 then (workD D x.a syncR).1
  else if x.kind = 5 then (truncD D x.a x.n).1
  else if x.kind = 6 then (renD D x.a x.b).1
  else if x.kind = 7 then (workD D x.a removeR).1
  else if x.kind = 8 then ⟨D.L, D.room, max x.n (-1), D.off⟩
  else if x.kind = 9 then crashD D x.keep
  else D
theorem Ok.step {size : Nat} {D : Dk} {x : De} (hn : x.n ≤ 9223372036854775807) (h : Ok size D) : Ok size (stepD D x) := by
  unfold stepD
  split
  · exact Ok.app h
  split
  · exact Ok.sync h
  split
  · exact Ok.trunc h
  split
  · exact Ok.ren h
  split
  · exact Ok.remove h
  split
  · exact Ok.setFuse hn h
  split
  · exact Ok.crash h
  · exact h
section
variable {w0 w : World} {L : List Res} {l : List De} {A : Option Addr} {c b size : Nat} {D : Dk}
theorem d_at {o b i : Nat} (hr : Rd w 6 (some ⟨b, o, none⟩) l.length (l.flatMap encD)) (hi : i < l.length) : w.cell? ⟨b, o + i * 6, none⟩ = some (.int .i64 l[i].kind) ∧ w.cell? ⟨b, o + i * 6 + 1, none⟩ = some (.int .i64 l[i].n) ∧ w.cell? ⟨b, o + i * 6 + 2, none⟩ = some (.string l[i].a) ∧ w.cell? ⟨b, o + i * 6 + 3, none⟩ = some (.string l[i].b) ∧ w.cell? ⟨b, o + i * 6 + 4, none⟩ = some (.string l[i].s) ∧ w.cell? ⟨b, o + i * 6 + 5, none⟩ = some (.slice l[i].A l[i].keep.length l[i].c) :=
  ⟨hr.struct encD_len hi (j := 0) (by omega) rfl, hr.struct encD_len hi (j := 1) (by omega) rfl, hr.struct encD_len hi (j := 2) (by omega) rfl, hr.struct encD_len hi (j := 3) (by omega) rfl, hr.struct encD_len hi (j := 4) (by omega) rfl, hr.struct encD_len hi (j := 5) (by omega) rfl⟩
theorem do_ret {x : De} (hx : DeS w0 x) (hO : Ok size D) (hD : Dsk w0 [] L b D w) : Ret Tryd.prog 27 #[ptr b, dv x] w fun v w' => Dsk w0 [] L b (stepD D x) w' := by
  obtain ⟨mb, X, hX, hS⟩ := hD
  refine s27 _ _ ?_
  unfold m27
  unfold m27_0
  refine new_ok (bx54 _ _ _ _ _ _ _) hS ?_
  intro b3 w hS
  have toD : Dsk w0 [] (Res.cells b3 54 (encD x) :: L) b D w := Dsk.push hX hS
  have end_ : ∀ (v : Value) (D' : Dk) w, D' = stepD D x → Dsk w0 [] (Res.cells b3 54 (encD x) :: L) b D' w → Dsk w0 [] L b (stepD D x) w := fun v D' w e h => e ▸ Dsk.pop h
  have hE : Bes w0 [] (Res.cells b3 54 (encD x) :: L) 1 x.A x.keep.length (x.keep.map (Value.int .i64)) := Bes.of_old0 hx.1.2.2
  have hx3 := hx.2.1
  have hx4 := hx.2.2
  unfold m27_1
  first | refine valP_ok (fa54_0 _ _) ?_ | refine valP_ok (fao54_0 _ _ _) ?_
  first | refine valP_ok (ld3 (hS.cell 0 rfl rfl)) ?_ | refine valP_ok (ld3 (hS.cell 1 rfl rfl)) ?_ | refine valP_ok (ld3 (hS.cell 2 rfl rfl)) ?_ | refine valP_ok (ld3 (hS.cell 3 rfl rfl)) ?_ | refine valP_ok (ld3 (hS.cell 4 rfl rfl)) ?_ | refine valP_ok (ld3 (hS.cell 5 rfl rfl)) ?_ | refine valP_ok (ld3 (hS.cell 6 rfl rfl)) ?_ | refine valP_ok (ld3 (hS.cell 7 rfl rfl)) ?_ | refine valP_ok (ld3 (by assumption)) ?_
  have d9 : ∀ t : Bool, (t = true ↔ x.kind = 9) → ¬ (x.kind = 0 ∨ x.kind = 1 ∨ x.kind = 2) → ¬ (x.kind = 3 ∨ x.kind = 4) → ¬ x.kind = 5 → ¬ x.kind = 6 → ¬ x.kind = 7 → ¬ x.kind = 8 → m27_19 (fun v w' => Dsk w0 [] L b (stepD D x) w') (ptr b) (.pointer (some ⟨b3, 0, none⟩)) (.bool t) w := fun t ht h0 h3 h5 h6 h7 h8 => by
    unfold m27_19
    cases t with
    | true =>
      refine cond_t rfl ?_
      first | refine valP_ok (fa54_5 _ _) ?_ | refine valP_ok (fao54_5 _ _ _) ?_
      first | refine valP_ok (ld46 (hS.cell 0 rfl rfl)) ?_ | refine valP_ok (ld46 (hS.cell 1 rfl rfl)) ?_ | refine valP_ok (ld46 (hS.cell 2 rfl rfl)) ?_ | refine valP_ok (ld46 (hS.cell 3 rfl rfl)) ?_ | refine valP_ok (ld46 (hS.cell 4 rfl rfl)) ?_ | refine valP_ok (ld46 (hS.cell 5 rfl rfl)) ?_ | refine valP_ok (ld46 (hS.cell 6 rfl rfl)) ?_ | refine valP_ok (ld46 (hS.cell 7 rfl rfl)) ?_ | refine valP_ok (ld46 (by assumption)) ?_
      refine callR (by kernel_rfl) (crash_ret (by omega) hO hE toD) ?_
      intro _ w hD
      unfold m27_20 m27_21
      exact end_ .nilIface _ _ (by unfold stepD; rw [if_neg h0, if_neg h3, if_neg h5, if_neg h6, if_neg h7, if_neg h8, if_pos (ht.1 rfl)]) hD
    | false =>
      refine cond_f rfl ?_
      unfold m27_2
      first | refine valP_ok (fa54_2 _ _) ?_ | refine valP_ok (fao54_2 _ _ _) ?_
      first | refine valP_ok (ld9 (hS.cell 0 rfl rfl)) ?_ | refine valP_ok (ld9 (hS.cell 1 rfl rfl)) ?_ | refine valP_ok (ld9 (hS.cell 2 rfl rfl)) ?_ | refine valP_ok (ld9 (hS.cell 3 rfl rfl)) ?_ | refine valP_ok (ld9 (hS.cell 4 rfl rfl)) ?_ | refine valP_ok (ld9 (hS.cell 5 rfl rfl)) ?_ | refine valP_ok (ld9 (hS.cell 6 rfl rfl)) ?_ | refine valP_ok (ld9 (hS.cell 7 rfl rfl)) ?_ | refine valP_ok (ld9 (by assumption)) ?_
      refine callR (by kernel_rfl) (read_ret hO toD) ?_
      rintro _ w ⟨rfl, hD⟩
      refine valP_ok (extract_ok _ 0 rfl _) ?_
      refine valP_ok (extract_ok _ 1 rfl _) ?_
      unfold m27_3 m27_4
      exact end_ .nilIface _ _ (by unfold stepD; rw [if_neg h0, if_neg h3, if_neg h5, if_neg h6, if_neg h7, if_neg h8, if_neg (fun h => by have := ht.2 h; cases this)]) hD
  have d8 : ∀ t : Bool, (t = true ↔ x.kind = 8) → ¬ (x.kind = 0 ∨ x.kind = 1 ∨ x.kind = 2) → ¬ (x.kind = 3 ∨ x.kind = 4) → ¬ x.kind = 5 → ¬ x.kind = 6 → ¬ x.kind = 7 → m27_16 (fun v w' => Dsk w0 [] L b (stepD D x) w') (ptr b) (.pointer (some ⟨b3, 0, none⟩)) (.int .i64 x.kind) (.bool t) w := fun t ht h0 h3 h5 h6 h7 => by
    unfold m27_16
    cases t with
    | true =>
      refine cond_t rfl ?_
      first | refine valP_ok (fa54_1 _ _) ?_ | refine valP_ok (fao54_1 _ _ _) ?_
      first | refine valP_ok (ld3 (hS.cell 0 rfl rfl)) ?_ | refine valP_ok (ld3 (hS.cell 1 rfl rfl)) ?_ | refine valP_ok (ld3 (hS.cell 2 rfl rfl)) ?_ | refine valP_ok (ld3 (hS.cell 3 rfl rfl)) ?_ | refine valP_ok (ld3 (hS.cell 4 rfl rfl)) ?_ | refine valP_ok (ld3 (hS.cell 5 rfl rfl)) ?_ | refine valP_ok (ld3 (hS.cell 6 rfl rfl)) ?_ | refine valP_ok (ld3 (hS.cell 7 rfl rfl)) ?_ | refine valP_ok (ld3 (by assumption)) ?_
      obtain ⟨mb2, X2, hX2, hS2⟩ := toD
      refine callR (by kernel_rfl) (fuse_ret hS2) ?_
      intro _ w hS2
      unfold m27_17 m27_18
      exact end_ .nilIface ⟨D.L, D.room, max x.n (-1), D.off⟩ _ (by unfold stepD; rw [if_neg h0, if_neg h3, if_neg h5, if_neg h6, if_neg h7, if_pos (ht.1 rfl)]) ⟨mb2, X2, hX2, hS2⟩
    | false =>
      refine cond_f rfl ?_
      refine valP_ok (eq3 _ _ _ _ _) ?_
      exact d9 _ (by rw [decide_eq_true_eq]) h0 h3 h5 h6 h7 (fun h => by have := ht.2 h; cases this)
  have d7 : ∀ t : Bool, (t = true ↔ x.kind = 7) → ¬ (x.kind = 0 ∨ x.kind = 1 ∨ x.kind = 2) → ¬ (x.kind = 3 ∨ x.kind = 4) → ¬ x.kind = 5 → ¬ x.kind = 6 → m27_14 (fun v w' => Dsk w0 [] L b (stepD D x) w') (ptr b) (.pointer (some ⟨b3, 0, none⟩)) (.int .i64 x.kind) (.bool t) w := fun t ht h0 h3 h5 h6 => by
    unfold m27_14
    cases t with
    | true =>
      refine cond_t rfl ?_
      first | refine valP_ok (fa54_2 _ _) ?_ | refine valP_ok (fao54_2 _ _ _) ?_
      first | refine valP_ok (ld9 (hS.cell 0 rfl rfl)) ?_ | refine valP_ok (ld9 (hS.cell 1 rfl rfl)) ?_ | refine valP_ok (ld9 (hS.cell 2 rfl rfl)) ?_ | refine valP_ok (ld9 (hS.cell 3 rfl rfl)) ?_ | refine valP_ok (ld9 (hS.cell 4 rfl rfl)) ?_ | refine valP_ok (ld9 (hS.cell 5 rfl rfl)) ?_ | refine valP_ok (ld9 (hS.cell 6 rfl rfl)) ?_ | refine valP_ok (ld9 (hS.cell 7 rfl rfl)) ?_ | refine valP_ok (ld9 (by assumption)) ?_
      refine callR (by kernel_rfl) (remove_ret hO toD) ?_
      rintro _ w ⟨rfl, hD⟩
      unfold m27_15
      exact end_ .nilIface _ _ (by unfold stepD; rw [if_neg h0, if_neg h3, if_neg h5, if_neg h6, if_pos (ht.1 rfl)]) hD
    | false =>
      refine cond_f rfl ?_
      refine valP_ok (eq3 _ _ _ _ _) ?_
      exact d8 _ (by rw [decide_eq_true_eq]) h0 h3 h5 h6 (fun h => by have := ht.2 h; cases this)
  have d6 : ∀ t : Bool, (t = true ↔ x.kind = 6) → ¬ (x.kind = 0 ∨ x.kind = 1 ∨ x.kind = 2) → ¬ (x.kind = 3 ∨ x.kind = 4) → ¬ x.kind = 5 → m27_12 (fun v w' => Dsk w0 [] L b (stepD D x) w') (ptr b) (.pointer (some ⟨b3, 0, none⟩)) (.int .i64 x.kind) (.bool t) w := fun t ht h0 h3 h5 => by
    unfold m27_12
    cases t with
    | true =>
      refine cond_t rfl ?_
      first | refine valP_ok (fa54_2 _ _) ?_ | refine valP_ok (fao54_2 _ _ _) ?_
      first | refine valP_ok (ld9 (hS.cell 0 rfl rfl)) ?_ | refine valP_ok (ld9 (hS.cell 1 rfl rfl)) ?_ | refine valP_ok (ld9 (hS.cell 2 rfl rfl)) ?_ | refine valP_ok (ld9 (hS.cell 3 rfl rfl)) ?_ | refine valP_ok (ld9 (hS.cell 4 rfl rfl)) ?_ | refine valP_ok (ld9 (hS.cell 5 rfl rfl)) ?_ | refine valP_ok (ld9 (hS.cell 6 rfl rfl)) ?_ | refine valP_ok (ld9 (hS.cell 7 rfl rfl)) ?_ | refine valP_ok (ld9 (by assumption)) ?_
      first | refine valP_ok (fa54_3 _ _) ?_ | refine valP_ok (fao54_3 _ _ _) ?_
      first | refine valP_ok (ld9 (hS.cell 0 rfl rfl)) ?_ | refine valP_ok (ld9 (hS.cell 1 rfl rfl)) ?_ | refine valP_ok (ld9 (hS.cell 2 rfl rfl)) ?_ | refine valP_ok (ld9 (hS.cell 3 rfl rfl)) ?_ | refine valP_ok (ld9 (hS.cell 4 rfl rfl)) ?_ | refine valP_ok (ld9 (hS.cell 5 rfl rfl)) ?_ | refine valP_ok (ld9 (hS.cell 6 rfl rfl)) ?_ | refine valP_ok (ld9 (hS.cell 7 rfl rfl)) ?_ | refine valP_ok (ld9 (by assumption)) ?_
      refine callR (by kernel_rfl) (rename_ret hO toD) ?_
      rintro _ w ⟨rfl, hD⟩
      unfold m27_13
      exact end_ .nilIface _ _ (by unfold stepD; rw [if_neg h0, if_neg h3, if_neg h5, if_pos (ht.1 rfl)]) hD
    | false =>
      refine cond_f rfl ?_
      refine valP_ok (eq3 _ _ _ _ _) ?_
      exact d7 _ (by rw [decide_eq_true_eq]) h0 h3 h5 (fun h => by have := ht.2 h; cases this)
  have d5 : ∀ t : Bool, (t = true ↔ x.kind = 5) → ¬ (x.kind = 0 ∨ x.kind = 1 ∨ x.kind = 2) → ¬ (x.kind = 3 ∨ x.kind = 4) → m27_10 (fun v w' => Dsk w0 [] L b (stepD D x) w') (ptr b) (.pointer (some ⟨b3, 0, none⟩)) (.int .i64 x.kind) (.bool t) w := fun t ht h0 h3 => by
    unfold m27_10
    cases t with
    | true =>
      refine cond_t rfl ?_
      first | refine valP_ok (fa54_2 _ _) ?_ | refine valP_ok (fao54_2 _ _ _) ?_
      first | refine valP_ok (ld9 (hS.cell 0 rfl rfl)) ?_ | refine valP_ok (ld9 (hS.cell 1 rfl rfl)) ?_ | refine valP_ok (ld9 (hS.cell 2 rfl rfl)) ?_ | refine valP_ok (ld9 (hS.cell 3 rfl rfl)) ?_ | refine valP_ok (ld9 (hS.cell 4 rfl rfl)) ?_ | refine valP_ok (ld9 (hS.cell 5 rfl rfl)) ?_ | refine valP_ok (ld9 (hS.cell 6 rfl rfl)) ?_ | refine valP_ok (ld9 (hS.cell 7 rfl rfl)) ?_ | refine valP_ok (ld9 (by assumption)) ?_
      first | refine valP_ok (fa54_1 _ _) ?_ | refine valP_ok (fao54_1 _ _ _) ?_
      first | refine valP_ok (ld3 (hS.cell 0 rfl rfl)) ?_ | refine valP_ok (ld3 (hS.cell 1 rfl rfl)) ?_ | refine valP_ok (ld3 (hS.cell 2 rfl rfl)) ?_ | refine valP_ok (ld3 (hS.cell 3 rfl rfl)) ?_ | refine valP_ok (ld3 (hS.cell 4 rfl rfl)) ?_ | refine valP_ok (ld3 (hS.cell 5 rfl rfl)) ?_ | refine valP_ok (ld3 (hS.cell 6 rfl rfl)) ?_ | refine valP_ok (ld3 (hS.cell 7 rfl rfl)) ?_ | refine valP_ok (ld3 (by assumption)) ?_
      refine callR (by kernel_rfl) (truncate_ret hO toD) ?_
      rintro _ w ⟨rfl, hD⟩
      unfold m27_11
      exact end_ .nilIface _ _ (by unfold stepD; rw [if_neg h0, if_neg h3, if_pos (ht.1 rfl)]) hD
    | false =>
      refine cond_f rfl ?_
      refine valP_ok (eq3 _ _ _ _ _) ?_
      exact d6 _ (by rw [decide_eq_true_eq]) h0 h3 (fun h => by have := ht.2 h; cases this)
  have d3 : ∀ t : Bool, (t = true ↔ (x.kind = 3 ∨ x.kind = 4)) → ¬ (x.kind = 0 ∨ x.kind = 1 ∨ x.kind = 2) → m27_8 (fun v w' => Dsk w0 [] L b (stepD D x) w') (ptr b) (.pointer (some ⟨b3, 0, none⟩)) (.int .i64 x.kind) (.bool t) w := fun t ht h0 => by
    unfold m27_8
    cases t with
    | true =>
      refine cond_t rfl ?_
      first | refine valP_ok (fa54_2 _ _) ?_ | refine valP_ok (fao54_2 _ _ _) ?_
      first | refine valP_ok (ld9 (hS.cell 0 rfl rfl)) ?_ | refine valP_ok (ld9 (hS.cell 1 rfl rfl)) ?_ | refine valP_ok (ld9 (hS.cell 2 rfl rfl)) ?_ | refine valP_ok (ld9 (hS.cell 3 rfl rfl)) ?_ | refine valP_ok (ld9 (hS.cell 4 rfl rfl)) ?_ | refine valP_ok (ld9 (hS.cell 5 rfl rfl)) ?_ | refine valP_ok (ld9 (hS.cell 6 rfl rfl)) ?_ | refine valP_ok (ld9 (hS.cell 7 rfl rfl)) ?_ | refine valP_ok (ld9 (by assumption)) ?_
      refine callR (by kernel_rfl) (sync_ret hO toD) ?_
      rintro _ w ⟨rfl, hD⟩
      unfold m27_9
      exact end_ .nilIface _ _ (by unfold stepD; rw [if_neg h0, if_pos (ht.1 rfl)]) hD
    | false =>
      refine cond_f rfl ?_
      refine valP_ok (eq3 _ _ _ _ _) ?_
      exact d5 _ (by rw [decide_eq_true_eq]) h0 (fun h => by have := ht.2 h; cases this)
  have d0 : ∀ t : Bool, (t = true ↔ (x.kind = 0 ∨ x.kind = 1 ∨ x.kind = 2)) → m27_6 (fun v w' => Dsk w0 [] L b (stepD D x) w') (ptr b) (.pointer (some ⟨b3, 0, none⟩)) (.int .i64 x.kind) (.bool t) w := fun t ht => by
    unfold m27_6
    cases t with
    | true =>
      refine cond_t rfl ?_
      first | refine valP_ok (fa54_2 _ _) ?_ | refine valP_ok (fao54_2 _ _ _) ?_
      first | refine valP_ok (ld9 (hS.cell 0 rfl rfl)) ?_ | refine valP_ok (ld9 (hS.cell 1 rfl rfl)) ?_ | refine valP_ok (ld9 (hS.cell 2 rfl rfl)) ?_ | refine valP_ok (ld9 (hS.cell 3 rfl rfl)) ?_ | refine valP_ok (ld9 (hS.cell 4 rfl rfl)) ?_ | refine valP_ok (ld9 (hS.cell 5 rfl rfl)) ?_ | refine valP_ok (ld9 (hS.cell 6 rfl rfl)) ?_ | refine valP_ok (ld9 (hS.cell 7 rfl rfl)) ?_ | refine valP_ok (ld9 (by assumption)) ?_
      first | refine valP_ok (fa54_4 _ _) ?_ | refine valP_ok (fao54_4 _ _ _) ?_
      first | refine valP_ok (ld9 (hS.cell 0 rfl rfl)) ?_ | refine valP_ok (ld9 (hS.cell 1 rfl rfl)) ?_ | refine valP_ok (ld9 (hS.cell 2 rfl rfl)) ?_ | refine valP_ok (ld9 (hS.cell 3 rfl rfl)) ?_ | refine valP_ok (ld9 (hS.cell 4 rfl rfl)) ?_ | refine valP_ok (ld9 (hS.cell 5 rfl rfl)) ?_ | refine valP_ok (ld9 (hS.cell 6 rfl rfl)) ?_ | refine valP_ok (ld9 (hS.cell 7 rfl rfl)) ?_ | refine valP_ok (ld9 (by assumption)) ?_
      refine callR (by kernel_rfl) (append_ret hO (by omega) toD) ?_
      rintro _ w ⟨rfl, hD⟩
      unfold m27_7
      exact end_ .nilIface _ _ (by unfold stepD; rw [if_pos (ht.1 rfl)]) hD
    | false =>
      have h0 : ¬ (x.kind = 0 ∨ x.kind = 1 ∨ x.kind = 2) := fun h => by have := ht.2 h; cases this
      refine cond_f rfl ?_
      refine valP_ok (eq3 _ _ _ _ _) ?_
      unfold m27_22
      refine cond_split (fun h => ?_) (fun h => ?_)
      · rw [decide_eq_true h]
        exact d3 _ ⟨fun _ => .inl h, fun _ => rfl⟩ h0
      · refine valP_ok (eq3 _ _ _ _ _) ?_
        exact d3 _ (by rw [decide_eq_true_eq]; exact ⟨.inr, fun h2 => h2.resolve_left h⟩) h0
  unfold m27_5
  refine valP_ok (eq3 _ _ _ _ _) ?_
  unfold m27_23
  refine cond_split (fun h => ?_) (fun h => ?_)
  · rw [decide_eq_true h]
    exact d0 _ ⟨fun _ => .inl h, fun _ => rfl⟩
  · refine valP_ok (eq3 _ _ _ _ _) ?_
    unfold m27_24
    refine cond_split (fun h1 => ?_) (fun h1 => ?_)
    · rw [decide_eq_true h1]
      exact d0 _ ⟨fun _ => .inr (.inl h1), fun _ => rfl⟩
    · refine valP_ok (eq3 _ _ _ _ _) ?_
      exact d0 _ (by rw [decide_eq_true_eq]; exact ⟨fun h2 => .inr (.inr h2), fun h2 => (h2.resolve_left h).resolve_left h1⟩)
end

end Go.Proofs.YtcldjjmfpmkldaaDoor.M
