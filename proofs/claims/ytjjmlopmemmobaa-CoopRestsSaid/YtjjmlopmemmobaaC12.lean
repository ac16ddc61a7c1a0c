/- Deeds of a coop. -/
import Derived.Test.YtjjmlopmemmobaaC11
namespace Go.Proofs.Ytjjmlopmemmobaa.M
open Go.Proofs.Ytjjmlopmemmobaa.F Go.RowKit
set_option linter.unusedVariables false
set_option linter.unusedSimpArgs false
set_option maxRecDepth 100000
set_option maxHeartbeats 2000000
attribute [local irreducible] Res.cells Res.row Res.map Res.any World.cell? World.frozen? Instr.fieldAt Instr.loadAt Instr.storeAt Instr.indexAt Instr.lookup Instr.mapUpdate Instr.box Instr.build Instr.buildSlice Instr.extract Instr.alloc Instr.field Instr.index Instr.sliceAt Instr.makeSlice Instr.makeMap Instr.makeFunc binS Op.unary Sem.run
open Go.Proofs.Ytjjmlopmemmobaa.L Go.Shelf
structure Dd where
  k : Int
  a : Int
  p : Int
  near : Bool
  A : Option Addr
  c : Nat
  l : List Int
def encD (x : Dd) : List Value := [.int .i64 x.k, .int .i64 x.a, .int .i64 x.p, .bool x.near, .slice x.A x.l.length x.c]
theorem encD_len (x : Dd) : (encD x).length = 5 := rfl
theorem encD_one (x : Dd) : ∀ u ∈ encD x, u.oneCell' = true := by simp [encD, Value.oneCell']
structure DOk (w0 : World) (x : Dd) : Prop where
  k : -9223372036854775808 ≤ x.k ∧ x.k ≤ 9223372036854775807
  a : -9223372036854775808 ≤ x.a ∧ x.a ≤ 9223372036854775807
  p : -9223372036854775808 ≤ x.p ∧ x.p ≤ 9223372036854775807
  rd : Rd w0 1 x.A x.l.length (ints x.l)
  cap : x.l.length ≤ x.c
  nil : x.A = none → x.c = 0
  each : ∀ y ∈ x.l, -9223372036854775808 ≤ y ∧ y ≤ 9223372036854775807
def cutD (x : Dd) : Dd := { x with l := x.l.take 12 }
theorem DOk.cut {w0 : World} {x : Dd} (h : DOk w0 x) : DOk w0 (cutD x) := ⟨h.k, h.a, h.p, Rd.take_ints h.rd 12, by have := h.cap; simp [cutD]; omega, h.nil, fun y hy => h.each y (List.mem_of_mem_take hy)⟩
abbrev drow (v : Value) (l : List Dd) : Res := Res.row 30 5 v l.length (l.flatMap encD)
theorem Rd.take_flat {α : Type} {enc : α → List Value} {k : Nat} (hk : ∀ x, (enc x).length = k) {w : World} {A : Option Addr} {l : List α} (h : Rd w k A l.length (l.flatMap enc)) (n : Nat) : Rd w k A (l.take n).length ((l.take n).flatMap enc) := by
  refine ⟨flat_len enc k hk _, fun hp => ?_⟩
  have e := flat_take enc k hk l n
  have hp' : 0 < (l.flatMap enc).length := by
    rw [← e, List.length_take] at hp
    omega
  obtain ⟨g, o, hA, hc⟩ := h.2 hp'
  refine ⟨g, o, hA, fun j u hj => hc j u ?_⟩
  rw [← e, List.getElem?_take] at hj
  split at hj
  · exact hj
  · cases hj
theorem dsome_ret {w0 w : World} {L : List Res} {A : Option Addr} {c : Nat} {l : List Dd} (hl : Rd w0 5 A l.length (l.flatMap encD)) (hc : l.length ≤ c) (hok : ∀ x ∈ l, DOk w0 x) (hS : St w0 [] w L) :
    Ret Try.prog 15 #[.slice A l.length c] w fun v w' => ∃ A' c', v = .slice A' ((l.take 100).map cutD).length c' ∧ St w0 [] w' (drow (.slice A' ((l.take 100).map cutD).length c') ((l.take 100).map cutD) :: L) := by
  have main : ∀ (l : List Dd), l.length ≤ 100 → Rd w0 5 A l.length (l.flatMap encD) → (∀ x ∈ l, DOk w0 x) → ∀ R : Value → World → Prop, (∀ A' c' w', St w0 [] w' (drow (.slice A' (l.map cutD).length c') (l.map cutD) :: L) → R (.slice A' (l.map cutD).length c') w') → m15_2 R (.slice A l.length c) w := fun l hl100 hl hok R hR => by
    unfold m15_2
    have hS := hS.row_nil 30 5
    unfold m15_3
    unfold m15_6
    refine loop_in (fun u w' => ∃ (i : Nat) (A' : Option Addr) (c' : Nat), u = (.slice A' ((l.take i).map cutD).length c', .int .i64 i) ∧ i ≤ l.length ∧ St w0 [] w' (drow (.slice A' ((l.take i).map cutD).length c') ((l.take i).map cutD) :: L)) (fun u _ => l.length - (intOf u.2).toNat) ⟨0, none, 0, rfl, by omega, hS⟩ ?_
    clear hS
    rintro u w ⟨i, A1, c1, rfl, hi, hS⟩
    unfold m15_7
    refine builtin_ok (len22 _) ?_
    refine valP_ok (lss_ok _ _ _ _ _ _ _) ?_
    unfold m15_13
    refine cond_split (fun h => ?_) (fun h => ?_)
    · have hlt : i < l.length := by omega
      have hr := hl.old0 hS
      obtain ⟨g, o, rfl⟩ := hr.some_ (by omega) (by omega)
      have h0 := hr.struct encD_len hlt (j := 0) (by omega) rfl
      have h1 := hr.struct encD_len hlt (j := 1) (by omega) rfl
      have h2 := hr.struct encD_len hlt (j := 2) (by omega) rfl
      have h3 := hr.struct encD_len hlt (j := 3) (by omega) rfl
      have h4 := hr.struct encD_len hlt (j := 4) (by omega) rfl
      have hx := hok _ (List.getElem_mem hlt)
      have htk : (l.take (i + 1)).map cutD = (l.take i).map cutD ++ [cutD l[i]] := by rw [List.take_succ_eq_append_getElem hlt, List.map_append]; rfl
      have htl : ((l.take i).map cutD).length ≤ 1000 := by rw [List.length_map, List.length_take]; omega
      generalize l[i] = x at *
      have fin : ∀ (y : Dd) (b w) R (K : Value × Value → World → Prop), St w0 [] w (Res.cells b 30 (encD y) :: drow (.slice A1 ((l.take i).map cutD).length c1) ((l.take i).map cutD) :: L) → (∀ A' c' w', St w0 [] w' (drow (.slice A' ((l.take i).map cutD ++ [y]).length c') ((l.take i).map cutD ++ [y]) :: L) → K (.slice A' ((l.take i).map cutD ++ [y]).length c', .int .i64 ((i + 1 : Nat) : Int)) w') →
          m15_11 R K (.slice (some ⟨g, o, none⟩) l.length c) (.slice A1 ((l.take i).map cutD).length c1) (.int .i64 i) (.pointer (some ⟨b, 0, none⟩)) w := fun y b w R K hS hK => by
        unfold m15_11
        first | refine ls30 0 hS rfl ?_ | refine ls30 1 hS rfl ?_ | refine ls30 2 hS rfl ?_ | refine ls30 3 hS rfl ?_ | refine ls30 4 hS rfl ?_ | refine valP_ok (ld30 (by assumption) (by assumption) (by assumption) (by assumption) (by assumption)) ?_
        refine newslice_ok (bs22_1 _) hS ?_
        intro b31 w hS
        refine append_oneS (enc := encD) (x := y) 1 sl22 encD_len (encD_one y) (by omega) (by omega) hS rfl ?_
        intro A2 c2 w' hS
        simp only [List.set_cons_zero, List.set_cons_succ] at hS
        unfold m15_9
        refine valP_ok (add_ok _ _ _ (by omega) (by omega) _) ?_
        exact hK A2 c2 _ hS.tail
      unfold m15_8
      first | refine valP_ok (ixz22 (by first | assumption | omega) _) ?_ | refine valP_ok (ix22 (by first | assumption | omega) _) ?_
      first | refine ls30 0 hS rfl ?_ | refine ls30 1 hS rfl ?_ | refine ls30 2 hS rfl ?_ | refine ls30 3 hS rfl ?_ | refine ls30 4 hS rfl ?_ | refine valP_ok (ld30 (by assumption) (by assumption) (by assumption) (by assumption) (by assumption)) ?_
      refine new_ok (al30 _) hS ?_
      intro b5 w hS
      first | refine ss30 0 hS rfl rfl rfl rfl rfl rfl ?_ | refine ss30 1 hS rfl rfl rfl rfl rfl rfl ?_ | refine ss30 2 hS rfl rfl rfl rfl rfl rfl ?_ | refine ss30 3 hS rfl rfl rfl rfl rfl rfl ?_ | refine ss30 4 hS rfl rfl rfl rfl rfl rfl ?_
      intro w hS
      simp only [List.set_cons_zero, List.set_cons_succ] at hS
      unfold m15_10
      first | refine valP_ok (fa30_4 _ _) ?_ | refine valP_ok (fao30_4 _ _ _) ?_
      first | refine valP_ok (ld28 (hS.cell 0 rfl rfl)) ?_ | refine valP_ok (ld28 (hS.cell 1 rfl rfl)) ?_ | refine valP_ok (ld28 (hS.cell 2 rfl rfl)) ?_ | refine valP_ok (ld28 (hS.cell 3 rfl rfl)) ?_ | refine valP_ok (ld28 (hS.cell 4 rfl rfl)) ?_ | refine valP_ok (ld28 (by assumption)) ?_
      refine builtin_ok (len28 _) ?_
      refine valP_ok (gtr_ok _ _ _ _ _ _ _) ?_
      unfold m15_12
      refine cond_split (fun h12 => ?_) (fun h12 => ?_)
      · first | refine valP_ok (fa30_4 _ _) ?_ | refine valP_ok (fao30_4 _ _ _) ?_
        first | refine valP_ok (ld28 (hS.cell 0 rfl rfl)) ?_ | refine valP_ok (ld28 (hS.cell 1 rfl rfl)) ?_ | refine valP_ok (ld28 (hS.cell 2 rfl rfl)) ?_ | refine valP_ok (ld28 (hS.cell 3 rfl rfl)) ?_ | refine valP_ok (ld28 (hS.cell 4 rfl rfl)) ?_ | refine valP_ok (ld28 (by assumption)) ?_
        have hcap := hx.cap
        refine valP_ok (sh28 (k := 12) (by omega) _) ?_
        first | refine valP_ok (fa30_4 _ _) ?_ | refine valP_ok (fao30_4 _ _ _) ?_
        first | refine store_at 0 st28 hS rfl (by simp) rfl ?_ | refine store_at 1 st28 hS rfl (by simp) rfl ?_ | refine store_at 2 st28 hS rfl (by simp) rfl ?_ | refine store_at 3 st28 hS rfl (by simp) rfl ?_ | refine store_at 4 st28 hS rfl (by simp) rfl ?_
        intro w hS
        simp only [List.set_cons_zero, List.set_cons_succ] at hS
        have hlen : (x.l.take 12).length = 12 := by rw [List.length_take]; omega
        have hS : St w0 [] w (Res.cells b5 30 (encD (cutD x)) :: drow (.slice A1 ((l.take i).map cutD).length c1) ((l.take i).map cutD) :: L) := by
          show St w0 [] w (Res.cells b5 30 [_, _, _, _, .slice x.A (x.l.take 12).length x.c] :: _)
          rw [hlen]
          exact hS
        exact fin _ _ _ _ _ hS (fun A' c' w' hS => ⟨⟨i + 1, A', c', by rw [htk], by omega, by rw [htk]; exact hS⟩, by simp [intOf]; omega⟩)
      · have hcx : cutD x = x := by
          unfold cutD
          rw [List.take_of_length_le (by omega)]
        rw [hcx] at htk
        exact fin x _ _ _ _ hS (fun A' c' w' hS => ⟨⟨i + 1, A', c', by rw [htk], by omega, by rw [htk]; exact hS⟩, by simp [intOf]; omega⟩)
    · have hie : i = l.length := by omega
      subst hie
      rw [List.take_length] at hS ⊢
      unfold m15_4 m15_5
      exact hR A1 c1 _ hS
  refine s15 _ ?_
  unfold m15
  unfold m15_0
  unfold m15_1
  refine builtin_ok (len22 _) ?_
  refine valP_ok (gtr_ok _ _ _ _ _ _ _) ?_
  unfold m15_14
  refine cond_split (fun h => ?_) (fun h => ?_)
  · refine valP_ok (sh22 (k := 100) (by omega) _) ?_
    have hlen : (l.take 100).length = 100 := by rw [List.length_take]; omega
    have := main (l.take 100) (by omega) (Rd.take_flat encD_len hl 100) (fun x hx => hok x (List.mem_of_mem_take hx))
    rw [hlen] at this
    exact this _ (fun A' c' w' hS => ⟨A', c', rfl, hS⟩)
  · have := main l (by omega) hl hok
    rw [List.take_of_length_le (by omega)]
    exact this _ (fun A' c' w' hS => ⟨A', c', rfl, hS⟩)

end Go.Proofs.Ytjjmlopmemmobaa.M
