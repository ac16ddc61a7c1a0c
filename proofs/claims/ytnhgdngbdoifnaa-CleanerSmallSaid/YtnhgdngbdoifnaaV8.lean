/- The document's Clean; the same ones. -/
import Derived.Test.YtnhgdngbdoifnaaV7
import Derived.Test.YtnhgdngbdoifnaaFwW
import Derived.Test.YtnhgdngbdoifnaaMbase0
import Derived.Test.YtnhgdngbdoifnaaMmid0
namespace Go.Proofs.Ytnhgdngbdoifnaa.M
open Go.Proofs.Ytnhgdngbdoifnaa.F Go.RowKit
set_option linter.unusedVariables false
set_option linter.unusedSimpArgs false
set_option maxRecDepth 100000
set_option maxHeartbeats 2000000
attribute [local irreducible] Res.cells Res.row Res.map Res.any World.cell? World.frozen? Instr.fieldAt Instr.loadAt Instr.storeAt Instr.indexAt Instr.lookup Instr.mapUpdate Instr.box Instr.build Instr.buildSlice Instr.extract Instr.alloc Instr.field Instr.index Instr.sliceAt Instr.makeSlice Instr.makeMap Instr.makeFunc binS Op.unary Sem.run
open Classical in
/-- those of the first n that are not needless. -/
noncomputable def cleanN (l : List Gt) (upto : Int) : Nat → List Gt
  | 0 => []
  | n + 1 => if h : n < l.length then (if Needless l n upto then cleanN l upto n else cleanN l upto n ++ [l[n]]) else cleanN l upto n
theorem cleanN_len (l : List Gt) (upto : Int) : ∀ n, (cleanN l upto n).length ≤ n
  | 0 => Nat.le_refl _
  | n + 1 => by
    have := cleanN_len l upto n
    unfold cleanN
    split
    · split
      · omega
      · rw [List.length_append]; simp; omega
    · omega
theorem cleanN_skip {l : List Gt} {upto : Int} {n : Nat} (h : Needless l n upto) : cleanN l upto (n + 1) = cleanN l upto n := by
  rw [cleanN, dif_pos h.1, if_pos h]
theorem cleanN_take {l : List Gt} {upto : Int} {n : Nat} (hn : n < l.length) (h : ¬ Needless l n upto) : cleanN l upto (n + 1) = cleanN l upto n ++ [l[n]] := by
  rw [cleanN, dif_pos hn, if_neg h]
section
variable {w0 w : World} {F : List Nat} {L : List Res} {l l2 : List Gt} {A A2 : Option Addr} {c c2 : Nat} {upto : Int}


theorem gt_ext {a b : Gt} : a = b ↔ a.off = b.off ∧ a.r.key = b.r.key ∧ a.r.time = b.r.time ∧ a.r.text = b.r.text := by
  obtain ⟨o, k, t, s⟩ := a
  obtain ⟨o2, k2, t2, s2⟩ := b
  simp
theorem samegot_ret (hm : l.length ≤ 1000000) (hm2 : l2.length ≤ 1000000) (hE : BG w0 F L A l) (hE2 : BG w0 F L A2 l2) (hS : St w0 F w L) : Ret Try.prog 8 #[.slice A l.length c, .slice A2 l2.length c2] w fun v w' => (∃ t, v = .bool t ∧ (t = true ↔ l = l2)) ∧ St w0 F w' L := by
  refine s8 _ _ ?_
  unfold m8 m8_0
  unfold m8_1
  refine builtin_ok (len25 _) ?_
  refine builtin_ok (len25 _) ?_
  refine valP_ok (ne3 _ _ _ _ _) ?_
  unfold m8_12
  refine cond_split (fun h => ?_) (fun h => ?_)
  · unfold m8_13
    exact ⟨⟨_, rfl, ⟨fun h => (by cases h), fun h1 => absurd (congrArg (fun l : List Gt => (l.length : Int)) h1) h⟩⟩, hS⟩
  · have hl : l.length = l2.length := by omega
    unfold m8_2 m8_5
    refine loop_in (fun u w' => ∃ i : Nat, u = .int .i64 (i : Int) ∧ i ≤ l.length ∧ (∀ j (h1 : j < l.length) (h2 : j < l2.length), j < i → l[j] = l2[j]) ∧ St w0 F w' L) (fun u _ => l.length - (intOf u).toNat) ⟨0, rfl, by omega, fun j _ _ h => by omega, hS⟩ ?_
    clear hS
    rintro u w ⟨i, rfl, hi, hno, hS⟩
    unfold m8_6
    refine builtin_ok (len25 _) ?_
    refine valP_ok (lss_ok _ _ _ _ _ _ _) ?_
    unfold m8_11
    refine cond_split (fun h1 => ?_) (fun h1 => ?_)
    · have hil : i < l.length := by omega
      have hil2 : i < l2.length := by omega
      obtain ⟨b, o, rfl⟩ := (hE.rd hS).some_ (by omega) (by omega)
      obtain ⟨b2, o2, rfl⟩ := (hE2.rd hS).some_ (by omega) (by omega)
      have p := g_at (hE.rd hS) hil
      have p2 := g_at (hE2.rd hS) hil2
      unfold m8_7
      refine valQ_ok (ix25 hil) ?_
      refine valQ_at (fun n => ld48 (cellD p.1 n) (cellD p.2.1 n) (cellD p.2.2.1 n) (cellD p.2.2.2 n)) ?_
      refine valQ_ok (ix25 hil2) ?_
      refine valQ_at (fun n => ld48 (cellD p2.1 n) (cellD p2.2.1 n) (cellD p2.2.2.1 n) (cellD p2.2.2.2 n)) ?_
      refine valQ_ok (ne48 _ _ _ _ _ _ _ _ _ _) ?_
      refine drawn_ok hS ?_
      intro w hS
      unfold m8_9
      refine cond_split (fun h2 => ?_) (fun h2 => ?_)
      · unfold m8_10
        refine ⟨⟨_, rfl, ⟨fun h => (by cases h), fun h3 => ?_⟩⟩, hS⟩
        subst h3
        exact absurd ⟨rfl, rfl, rfl, rfl⟩ h2
      · unfold m8_8
        refine valP_ok (add_ok _ _ _ (by omega) (by omega) _) ?_
        refine ⟨⟨i + 1, rfl, by omega, fun j h3 h4 h5 => ?_, hS⟩, by simp [intOf]; omega⟩
        rcases Nat.lt_or_ge j i with g | g
        · exact hno j h3 h4 g
        · obtain rfl : j = i := by omega
          exact gt_ext.2 (Classical.not_not.1 h2)
    · unfold m8_3 m8_4
      exact ⟨⟨_, rfl, ⟨fun _ => List.ext_getElem hl fun j h2 h3 => hno j h2 h3 (by omega), fun _ => rfl⟩⟩, hS⟩
end


end Go.Proofs.Ytnhgdngbdoifnaa.M
