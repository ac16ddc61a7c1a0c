/- What is true of a coop behind any deeds. -/
import Derived.Test.YtjjmlopmemmobaaC14
namespace Go.Proofs.Ytjjmlopmemmobaa.M
open Go.Proofs.Ytjjmlopmemmobaa.F Go.RowKit
set_option linter.unusedVariables false
set_option linter.unusedSimpArgs false
set_option maxRecDepth 100000
set_option maxHeartbeats 2000000
attribute [local irreducible] Res.cells Res.row Res.map Res.any World.cell? World.frozen? Instr.fieldAt Instr.loadAt Instr.storeAt Instr.indexAt Instr.lookup Instr.mapUpdate Instr.box Instr.build Instr.buildSlice Instr.extract Instr.alloc Instr.field Instr.index Instr.sliceAt Instr.makeSlice Instr.makeMap Instr.makeFunc binS Op.unary Sem.run
open Go.Proofs.Ytjjmlopmemmobaa.L Go.Shelf
structure CFull (s : CS) : Prop where
  none : s.M.length = 0 → (∀ x ∈ s.H, x = 0) ∧ ∀ x ∈ s.W, x = 0
  some : 0 < s.M.length → (∀ x ∈ s.H, x ∈ s.M) ∧ Fair s.H.length s.M s.W
structure CInv (s : CS) (k : Nat) : Prop where
  pre : CPre s
  g : s.g ≤ k
  full : CFull s
theorem turned_inv {s : CS} {k : Nat} (hs : CPre s) (hg : s.g ≤ k) (hk : k ≤ 1000000) : CInv (turned s) (k + 1) := by
  have hg0 := hs.g0
  have hwl := hs.wlen
  have hkl := keepH_len s
  have hp := hs.parts
  have hgl : (giveL (keepH s) (turnW s)).length = s.H.length := by rw [giveL_len (by omega)]; omega
  have hk0 : ∀ x ∈ keepH s, x = 0 ∨ x ∈ s.M := fun x hx => by
    obtain ⟨y, hy, rfl⟩ := List.mem_map.1 hx
    by_cases h : y ∈ s.M
    · rw [if_pos h]; exact .inr h
    · rw [if_neg h]; exact .inl rfl
  have hfair := fun h => sticky_fair (parts := s.H.length) (M := s.M) (old := giveL (keepH s) s.W) h hs.bad hs.rise (by have := hs.len; omega) hs.bM hs.pos
  have hw0 : ∀ x ∈ turnW s, (s.M.length = 0 ∧ x = 0) ∨ (0 < s.M.length ∧ x ∈ s.M) := fun x hx => by
    by_cases h : s.M.length = 0
    · unfold turnW stickyL at hx
      rw [if_pos h] at hx
      exact .inl ⟨h, List.eq_of_mem_replicate hx⟩
    · exact .inr ⟨by omega, (hfair (by omega)).inM x hx⟩
  have hin : ∀ x ∈ giveL (keepH s) (turnW s), (s.M.length = 0 ∧ x = 0) ∨ (0 < s.M.length ∧ x ∈ s.M) := fun x hx => by
    obtain ⟨i, hi, rfl⟩ := List.mem_iff_getElem.1 hx
    rw [giveL_at i hi (by omega) (by omega)]
    split
    · exact hw0 _ (List.getElem_mem _)
    · rename_i h
      rcases hk0 _ (List.getElem_mem (show i < (keepH s).length by omega)) with h2 | h2
      · exact absurd h2 h
      · exact .inr ⟨List.length_pos_of_mem h2, h2⟩
  have hb : ∀ x, ((s.M.length = 0 ∧ x = 0) ∨ (0 < s.M.length ∧ x ∈ s.M)) → 0 ≤ x ∧ x ≤ 1099511627776 := fun x h => by
    rcases h with ⟨_, h⟩ | ⟨_, h⟩
    · omega
    · have := hs.each x h; omega
  refine ⟨⟨hs.rise, hs.len, hs.each, by show 1 ≤ (giveL (keepH s) (turnW s)).length ∧ (giveL (keepH s) (turnW s)).length ≤ 16; omega, by show (turnW s).length = (giveL (keepH s) (turnW s)).length; omega, fun x hx => hb x (hin x hx), fun x hx => hb x (hw0 x hx), by show 0 ≤ s.g + 1 ∧ s.g + 1 ≤ 1000000000; omega⟩, by show s.g + 1 ≤ _; omega, ⟨fun h => ⟨fun x hx => ?_, fun x hx => ?_⟩, fun h => ⟨fun x hx => ?_, ?_⟩⟩⟩
  · rcases hin x hx with h2 | h2
    · exact h2.2
    · have h : s.M.length = 0 := h; omega
  · rcases hw0 x hx with h2 | h2
    · exact h2.2
    · have h : s.M.length = 0 := h; omega
  · rcases hin x hx with h2 | h2
    · have h : 0 < s.M.length := h; omega
    · exact h2.2
  · show Fair ((giveL (keepH s) (turnW s)).length : Int) s.M (turnW s)
    rw [hgl]
    exact hfair h
theorem CInv.up {s : CS} {k : Nat} (h : CInv s k) : CInv s (k + 1) := ⟨h.pre, by have := h.g; omega, h.full⟩
theorem join_inv {s : CS} {k : Nat} {l : List Int} (h : CInv s k) (hk : k ≤ 1000000) : CInv (joinS s l).2 (k + 1) := by
  unfold joinS
  split
  · exact h.up
  · unfold joinF
    split
    · exact h.up
    · rename_i h0
      split
      · exact h.up
      · rename_i h8
        exact turned_inv (add_pre h.pre (Decidable.not_not.1 h0) h8) h.g hk
theorem leave_inv {s : CS} {k : Nat} {m : Int} (h : CInv s k) (hk : k ≤ 1000000) : CInv (leaveS s m).2 (k + 1) := by
  unfold leaveS
  split
  · exact turned_inv (leave_pre h.pre m) h.g hk
  · exact h.up
theorem done_inv {s : CS} {k : Nat} {m p : Int} (h : CInv s k) : CInv (doneS s m p).2 (k + 1) := by
  unfold doneS
  split
  · exact h.up
  · rename_i hm
    have hm := Decidable.not_not.1 hm
    split
    · exact h.up
    · split
      · exact h.up
      · have hp := h.pre
        have hf := h.full.some (List.length_pos_of_mem hm)
        have hgl : (giveL (s.H.set p.toNat 0) s.W).length = s.H.length := by rw [giveL_len (by rw [List.length_set]; exact hp.same), List.length_set]
        have hsame := hp.same
        have hin : ∀ x ∈ giveL (s.H.set p.toNat 0) s.W, x ∈ s.M := fun x hx => by
          obtain ⟨i, hi, rfl⟩ := List.mem_iff_getElem.1 hx
          rw [giveL_at i hi (by rw [List.length_set]; omega) (by omega)]
          split
          · exact hf.2.inM _ (List.getElem_mem _)
          · rename_i h0
            rcases List.mem_or_eq_of_mem_set (List.getElem_mem (show i < (s.H.set p.toNat 0).length by rw [List.length_set]; omega)) with h2 | h2
            · exact hf.1 _ h2
            · exact absurd h2 h0
        refine ⟨⟨hp.rise, hp.len, hp.each, by show 1 ≤ (giveL (s.H.set p.toNat 0) s.W).length ∧ _; rw [hgl]; exact hp.parts, by show s.W.length = (giveL (s.H.set p.toNat 0) s.W).length; omega, fun x hx => by have := hp.each x (hin x hx); omega, hp.bW, hp.g0⟩, by show s.g ≤ _; have := h.g; omega, ⟨fun h0 => ?_, fun _ => ⟨hin, ?_⟩⟩⟩
        · have h0 : s.M.length = 0 := h0
          have := List.length_pos_of_mem hm
          omega
        · show Fair ((giveL (s.H.set p.toNat 0) s.W).length : Int) s.M s.W
          rw [hgl]
          exact hf.2
theorem deed_inv {s : CS} {k : Nat} {x : Dd} (h : CInv s k) (hk : k ≤ 1000000) : CInv (deedS s x).2 (k + 1) := by
  unfold deedS
  split
  · exact join_inv h hk
  · split
    · exact leave_inv h hk
    · split
      · exact h.up
      · exact done_inv h
theorem new_inv {n : Nat} (h : 1 ≤ n ∧ n ≤ 16) : CInv ⟨0, [], List.replicate n 0, List.replicate n 0⟩ 0 := by
  have hz : ∀ x ∈ List.replicate n (0 : Int), x = 0 := fun x hx => List.eq_of_mem_replicate hx
  refine ⟨⟨.nil, by simp, by simp, by simpa using h, by simp, fun x hx => by have := hz x hx; omega, fun x hx => by have := hz x hx; omega, by simp⟩, by simp, ⟨fun _ => ⟨hz, hz⟩, fun h => by simp at h⟩⟩
def ofN (parts : Int) : Nat := 1 + ((parts.tmod 16 + 16) % 16).toNat
theorem ofN_le (parts : Int) : 1 ≤ ofN parts ∧ ofN parts ≤ 16 := by unfold ofN; omega
theorem of_ret {w0 w : World} {F : List Nat} {L : List Res} {parts : Int} (hp : -9223372036854775808 ≤ parts) (hp' : parts ≤ 9223372036854775807) (hS : St w0 F w L) :
    Ret Try.prog 14 #[.int .i64 parts] w fun v w' => ∃ b X, v = .pointer (some ⟨b, 0, none⟩) ∧ St w0 F w' (coopL 94 b ⟨0, [], List.replicate (ofN parts) 0, List.replicate (ofN parts) 0⟩ X ++ L) := by
  have h := tmod_bounds parts (b := 16) (by omega)
  have hn := ofN_le parts
  refine s14 _ ?_
  unfold m14
  unfold m14_0
  unfold m14_1
  refine valP_ok (rem_any _ _ _ hp hp' (by omega) (by omega) _) ?_
  refine valP_ok (add_ok _ _ _ (by omega) (by omega) _) ?_
  refine valP_ok (rem_ok _ _ _ (by omega) (by omega) (by omega) _) ?_
  refine valP_ok (add_ok _ _ _ (by omega) (by omega) _) ?_
  have e : (1 : Int) + (parts.tmod 16 + 16) % 16 = (ofN parts : Int) := by unfold ofN; omega
  rw [e]
  refine callR (by kernel_rfl) (new_ret (by omega) (by omega) hS) ?_
  intro v w hv
  rw [if_pos (by omega)] at hv
  obtain ⟨b, X, rfl, hS⟩ := hv
  rw [Int.toNat_natCast] at hS
  refine valP_ok (extract_ok _ 0 rfl _) ?_
  refine valP_ok (extract_ok _ 1 rfl _) ?_
  unfold m14_2
  refine valP_ok (ne26 _ _ _ _ _) ?_
  unfold m14_5
  refine cond_df (by decide) ?_
  unfold m14_3 m14_4
  exact ⟨b, X, rfl, hS⟩

end Go.Proofs.Ytjjmlopmemmobaa.M
