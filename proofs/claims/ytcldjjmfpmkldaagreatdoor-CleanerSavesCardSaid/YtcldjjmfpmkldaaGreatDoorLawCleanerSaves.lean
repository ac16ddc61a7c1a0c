/- CleanerSaves holds for every input: nothing is asked of the arguments beyond their types. -/
import Derived.Test.YtcldjjmfpmkldaaGreatDoorRows
import Derived.Test.YtcldjjmfpmkldaaGreatDoorJCleanerSaves10
import Derived.WalkKit
import Derived.ProofKit
import Derived.OpenShut
import Derived.ShutString
import Derived.ChangeOld
import Derived.Below
import Derived.SizedLaws
import Derived.Test.YtcldjjmfpmkldaaGreatDoorTie
import Derived.Test.YtcldjjmfpmkldaaGreatDoorCards
import Derived.Lay
import Derived.SevenTiedAt
import Derived.ChangeVars
import Derived.LaidLaws
import Derived.LaidHandle
import Derived.MakeChecks
import Derived.Stop.Joined
import Derived.Handed
namespace Go.Proofs.YtcldjjmfpmkldaaGreatDoor.cleanerSaves
open Go.ChangeShapes Go.WideShapes Go.ChangeAt Go.RowKit Go.Proofs.YtcldjjmfpmkldaaGreatDoor.F Go.Proofs.YtcldjjmfpmkldaaGreatDoor.M
open Go.ChangeMaps (open_string shut_string)
set_option linter.unusedVariables false
set_option linter.unusedSimpArgs false
theorem own : ownKnob Tryz.prog.godebug = none := by kernel_rfl
theorem laidOut : laidOutB Tryz.prog = true := by kernel_rfl
theorem row_of {k : IntKind} {W : World} {x : Addr} {n c : Nat} {zs : List Int} (hl : n ≤ c) (hz : zs.length = c) (hcell : ∀ i, i < zs.length → W.cell? (x.add i) = some (.int k (zs.getD i 0))) (hw : ∀ n ∈ zs, (Lit.int k n).wf = true) :
    ∃ l : List Int, l.length = n ∧ n ≤ c ∧ Rd W 1 (some x) n (l.map (Value.int k)) ∧ ∀ n ∈ l, (Lit.int k n).wf = true := by
  refine ⟨zs.take n, by rw [List.length_take]; omega, hl, ⟨by simp; omega, fun hp => ?_⟩, fun m hm => hw m (List.mem_of_mem_take hm)⟩
  have h0 : 0 < zs.length := by simp at hp; omega
  obtain ⟨b, off, spot⟩ := x
  have hspot : spot = none := by simpa [Addr.add] using World.cell?_spot (hcell 0 h0)
  subst hspot
  refine ⟨b, off, rfl, fun j u hj => ?_⟩
  simp only [List.getElem?_map] at hj
  cases e : (zs.take n)[j]? with
  | none => rw [e] at hj; cases hj
  | some z =>
    rw [e] at hj
    rw [List.getElem?_take] at e
    split at e
    · obtain ⟨hi, e2⟩ := List.getElem?_eq_some_iff.1 e
      have := hcell j hi
      rw [add_none] at this
      rw [this]
      simp [List.getD, e] at hj ⊢
      exact hj
    · cases e
theorem laid_met (os : Os) (args : Array Value) : laidMetH Tryz.prog Rows.cleanerSavesRow.laid ((World.laidAll Tryz.prog os Rows.cleanerSavesRow.laid).forCall (fun _ _ => 0) ⟨#[], args, []⟩).memory := by
  rw [Go.MakeChecks.laidMetH_plain Tryz.prog Rows.cleanerSavesRow.laid _ (by kernel_rfl)]
  exact laidMet_laidAll args (by kernel_rfl) (by kernel_rfl)
set_option maxRecDepth 100000 in
theorem lifted (os : Os) (started : os.Started) (H : Type) (enc : TypeId × Value → H) :
    ReturnsInHanded {} Tryz.checked os 4 .any (fun w args => (Rows.cleanerSavesSpec.pre enc Tryz.prog Tryz.f4 [] false w args ∧ laidMetH Tryz.prog Rows.cleanerSavesRow.laid w) ∧ sizedMet enc Tryz.prog Tryz.f4 (OpenSpec.ofChange Rows.cleanerSavesSpec) false w args) (Rows.cleanerSavesSpec.post enc Tryz.prog Tryz.f4 false true false false) := by
  refine returnsInHanded_of_change_and (C := Tryz.checked) (X := fun w _ => laidMetH Tryz.prog Rows.cleanerSavesRow.laid w) (fun _ _ _ hh h => h.of_heap hh) own started (by kernel_rfl) Tryz.func4
    (ChangeSpec.witness_at (enc := enc) (C := Tryz.checked) (os := os) (X := fun w _ => laidMetH Tryz.prog Rows.cleanerSavesRow.laid w) false (World.laidAll Tryz.prog os Rows.cleanerSavesRow.laid) #[.int .i64 0, .slice none 0 0] 8 (World.laidAll_os _ _ _) (by kernel_rfl) (by kernel_rfl) (by kernel_rfl) (by kernel_rfl) (by kernel_rfl) (laid_met os _)) ?_
  intro W base args ds gs before hval0 hW hcnd hsz0 _ _
  have hsz : (DataW.weightsEach Tryz.prog (Tryz.f4.params.toList ++ Rows.cleanerSavesSpec.plain.varTypes Tryz.prog) (ds ++ gs)).all (· ≤ reachBytes) = true := hsz0
  have hval : ∀ (j : Nat) t v, Tryz.f4.params[j]? = some t → args[j]? = some v → Value.okWide Tryz.prog W .any base t v := hval0
  have hW' := hW
  obtain ⟨p, q, hA0, hV, rfl, hfz, hnd⟩ := hW
  have hA : DataW.TrodAll enc Tryz.prog W 0 (fun _ => true) true Tryz.f4.params.toList args.toList ds p := hA0
  rw [Tryz.params4] at hA hval hsz
  obtain ⟨v0, vs0, d0, ds0, p0, q0, hargs, rfl, rfl, h0, r0⟩ := trodAll_cons hA
  obtain ⟨v1, vs1, d1, ds1, p1, q1, rfl, rfl, rfl, h1, r1⟩ := trodAll_cons r0
  obtain ⟨rfl, rfl, rfl⟩ := trodAll_nil r1
  obtain rfl : args = #[v0, v1] := by cases args; simp_all
  obtain ⟨rfl, rfl⟩ := trodVars_none hV
  obtain ⟨a0, rfl, rfl, rfl, w0⟩ := open_int Tryz.underlying3 (hval 0 3 v0 rfl rfl) h0
  have b0 := bounds_i64 w0
  obtain ⟨A1, n1, c1, rfl⟩ := okWide_slice Tryz.underlying38 (hval 1 38 v1 rfl rfl)
  have k1 := h1
  have lt1 : ∀ x ∈ p1, x.block < W.heap.size := by obtain ⟨m, hm⟩ := k1; exact DataW.trod_lt m _ _ _ hm
  obtain ⟨fu1, hf1⟩ := h1
  obtain ⟨A1', c1', l1, hcs1, hc1, hn1, hr1, ok1⟩ := openSds hf1
  simp [Value.cells] at hcs1
  obtain ⟨rfl, rfl, rfl⟩ := hcs1
  clear hA0 hval0 hsz0
  refine Calls.mono (csaves_ret hr1 ok1) fun e W' ⟨v, he, hv, bel⟩ => ?_
  subst he
  subst hv
  exact ⟨_, rfl, _, _, _, [], _, [], hW', trodAll_mk1 (shut_bool Tryz.underlying4 _), (trodAll_cons_mk (shut_int Tryz.underlying3 w0) (trodAll_cons_mk (Below.trod laidOut (by kernel_rfl) (of_decide_eq_true (by kernel_rfl)) k1 bel lt1) trodAll_mk0)), rfl, bel.frame _, fun h => by cases h⟩
theorem over : Rows.cleanerSavesRow.holds Tryz.pinned (OpenSpec.ofChange Rows.cleanerSavesSpec) :=
  OpenClaim.holds_of_wide 4 Tryz.f4 rfl rfl rfl rfl rfl rfl rfl ⟨rfl, rfl, rfl, rfl, rfl⟩ rfl rfl rfl rfl rfl (by kernel_rfl) Tryz.func4 (by kernel_rfl)
    (of_decide_eq_true (by kernel_rfl)) (by unfold Func.isWrapper; first | (rw [if_pos (by decide +kernel)]; kernel_rfl) | (rw [if_neg (by decide +kernel)]; exact ⟨rfl, rfl⟩))
    (fun os started H enc _ => lifted os started H enc)
theorem stands : (Tryz.f4.params.all fun t => !(Tryz.prog.wantsStandIn t)) = true := by kernel_rfl
theorem card : Rows.CleanerSavesCardSaid :=
  Claim7.holds_tied_plain_at .later [] [.data, .pinned] true (true, "f87fbcdc9d63d4348e2aa00cbc73503ba3366b1debbd19f8f763d47f3369e284") false
    over (fun _ h => by cases h) (by kernel_rfl) (fun _ h => by cases h) cleanerSaves_row_tie rfl ⟨rfl, rfl⟩ (by kernel_rfl) rfl
    (fun f fn hf hfn => by
      obtain rfl : f = 4 := Option.some.inj ((show Tryz.prog.funcNamed Rows.cleanerSavesRow.func = some 4 by kernel_rfl).symm.trans hf) |>.symm
      obtain rfl : fn = Tryz.f4 := (Option.some.inj (Tryz.func4.symm.trans hfn)).symm
      refine ⟨by kernel_rfl, fun j t ht => ?_⟩
      have h := Array.all_eq_true_iff_forall_mem.1 stands t (Array.mem_of_getElem? ht)
      exact (by simpa using h : Tryz.prog.wantsStandIn t = false))
    (by kernel_rfl)
end Go.Proofs.YtcldjjmfpmkldaaGreatDoor.cleanerSaves
namespace Go.Proofs.YtcldjjmfpmkldaaGreatDoor
/-- The tied card, under a short name, for the claim. -/
theorem cleanerSaves_holds : Rows.CleanerSavesCardSaid := cleanerSaves.card
end Go.Proofs.YtcldjjmfpmkldaaGreatDoor
